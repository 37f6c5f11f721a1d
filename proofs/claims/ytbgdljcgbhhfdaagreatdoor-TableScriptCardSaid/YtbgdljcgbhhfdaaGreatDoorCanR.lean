/- Reference 7: Canon. -/
import Derived.Test.YtbgdljcgbhhfdaaGreatDoorCan
import Derived.Test.YtbgdljcgbhhfdaaGreatDoorRef3N
import Derived.Test.YtbgdljcgbhhfdaaGreatDoorHeldM
import Derived.Test.YtbgdljcgbhhfdaaGreatDoorNest
namespace Go.Proofs.YtbgdljcgbhhfdaaGreatDoor
open Go.RowKit

theorem sinceG {a b : World} (h : Since a b) (row : Option Nat) : a.grownBy b row := (show a.grownBy b none from ⟨h.os, h.tape, h.output, h.size, fun k hk _ => h.block k hk⟩).but row
set_option maxHeartbeats 1000000 in
theorem rdigits (j : Nat) (h : j < 4) (w : World) : Calls Tryz.prog 55 #[.int .i64 (j : Int)] w fun e w' => e = .returned (.string ⟨(Lib.decDigits j).toArray⟩) ∧ Since w w' := by
  have hd : Lib.decDigits j = [UInt8.ofNat (48 + j)] := by rw [Lib.decDigits, dif_pos (by omega)]
  rw [hd]
  clear hd
  match j, h with
  | 0, _ =>
    go_enter Tryz.func55, Tryz.ntmps55
    go_wp2_with fail
    go_ret
    exact ⟨rfl, Since.refl _⟩
  | 1, _ =>
    go_enter Tryz.func55, Tryz.ntmps55
    go_wp2_with fail
    go_ret
    exact ⟨rfl, Since.refl _⟩
  | 2, _ =>
    go_enter Tryz.func55, Tryz.ntmps55
    go_wp2_with fail
    go_ret
    exact ⟨rfl, Since.refl _⟩
  | 3, _ =>
    go_enter Tryz.func55, Tryz.ntmps55
    go_wp2_with fail
    go_ret
    exact ⟨rfl, Since.refl _⟩
theorem bin_valC {o : Oper} {ev : Operand → Value} {Pg : Program} {W : World} {u v : Bool} (h : (execOp ev o).run Pg W = .ok (.value (.bool u)) W) (e : u = v) : (execOp ev o).run Pg W = .ok (.value (.bool v)) W := e ▸ h
theorem var_pos {a : Atm} {k : Nat} (h : k < countA a) (hl : k < (argsL a).length) (hv : ((argsL a)[k]).1 = true) : ∃ j, posF (namesA a true) ((argsL a)[k]).2 0 = some j := by
  cases hp : posF (nmK a k) ((argsL a)[k]).2 0 with
  | some j => exact ⟨j, can_old (Nat.le_of_lt h) hp⟩
  | none => exact ⟨_, (can_new h hl hv hp).2⟩
theorem posF_here {α : Type} [DecidableEq α] {P : List α} {a : α} {q : Nat} (hq : q < P.length) (hn : posF (P.take q) a 0 = none) (he : P[q] = a) : posF P a 0 = some q := by
  have h1 : posF (P.take (q + 1)) a 0 = some q := by
    rw [List.take_succ_eq_append_getElem hq, posF_snoc, hn]
    simp only [he, if_true, List.length_take, Nat.zero_add]
    rw [Nat.min_eq_left (Nat.le_of_lt hq)]
  have h2 := posF_append (S := P.drop (q + 1)) h1
  rwa [List.take_append_drop] at h2
theorem posF_not {α : Type} [DecidableEq α] {P : List α} {a : α} {q : Nat} (hq : q < P.length) (hn : posF (P.take q) a 0 = none) (he : P[q] ≠ a) : posF (P.take (q + 1)) a 0 = none := by
  rw [List.take_succ_eq_append_getElem hq, posF_snoc, hn, if_neg he]
theorem krow_ownT {W : World} {B : Nat} {v : Value} {L : List (List UInt8)} (h : W.ownsRow B 9 1 v L.length (L.map strV)) : TRow W v L := by
  obtain ⟨a, c, rfl⟩ : ∃ a c, v = .slice a L.length c := (row_of_own h).len
  rcases row_of_own h with ⟨h1, h2, h3⟩ | ⟨b, o, c', h1, h2, h3⟩
  · injection h1 with e1 e2 e3
    subst e1 e3
    have : L = [] := List.eq_nil_of_length_eq_zero h2
    subst this
    exact KRow.nil _ _
  · injection h1 with e1 e2 e3
    subst e1 e3
    refine ⟨_, _, rfl, h2, fun h0 => ⟨b, o, rfl, fun k hk => ?_⟩⟩
    have := h3 k (by rw [List.length_map]; exact hk)
    show W.cell? ⟨b, o + k * 1, none⟩ = _
    rw [Nat.mul_one, this]
    simp
set_option maxHeartbeats 4000000 in
set_option maxRecDepth 100000 in
theorem rcanon_any (a_s a_p : List UInt8) (a_n : Int) (a_v0 a_v1 a_v2 a_v3 : Bool) (a_l0 a_l1 a_l2 a_l3 : List UInt8) (w : World) :
    Calls Tryz.prog 34 #[.agg #[.string ⟨a_s.toArray⟩, .string ⟨a_p.toArray⟩, .int .i64 a_n, .bool a_v0, .string ⟨a_l0.toArray⟩, .bool a_v1, .string ⟨a_l1.toArray⟩, .bool a_v2, .string ⟨a_l2.toArray⟩, .bool a_v3, .string ⟨a_l3.toArray⟩]] w fun e w' => e = .returned (.agg (atmC (canA ((a_s, a_p, a_n, (a_v0, a_l0), (a_v1, a_l1), (a_v2, a_l2), (a_v3, a_l3)) : Atm)))) ∧ Since w w' := by
  obtain ⟨n, hn4, hnc⟩ : ∃ n : Nat, n ≤ 4 ∧ Hid (n = countA ((a_s, a_p, a_n, (a_v0, a_l0), (a_v1, a_l1), (a_v2, a_l2), (a_v3, a_l3)) : Atm)) := ⟨countA ((a_s, a_p, a_n, (a_v0, a_l0), (a_v1, a_l1), (a_v2, a_l2), (a_v3, a_l3)) : Atm), countA_le _, rfl⟩
  have HVA := Lib.hid (fun W => rvars_any a_s a_p a_n a_v0 a_v1 a_v2 a_v3 a_l0 a_l1 a_l2 a_l3 W)
  obtain ⟨NS, hNS⟩ : ∃ NS, Hid (NS = namesA ((a_s, a_p, a_n, (a_v0, a_l0), (a_v1, a_l1), (a_v2, a_l2), (a_v3, a_l3)) : Atm) true) := ⟨_, rfl⟩
  rw [← hNS.out] at HVA
  have hNl : NS.length ≤ 4 := by
    rw [hNS.out]
    exact Nat.le_trans (nmK_len ((a_s, a_p, a_n, (a_v0, a_l0), (a_v1, a_l1), (a_v2, a_l2), (a_v3, a_l3)) : Atm) (countA ((a_s, a_p, a_n, (a_v0, a_l0), (a_v1, a_l1), (a_v2, a_l2), (a_v3, a_l3)) : Atm))) (countA_le _)
  have hS1 : Since w ((w.alloc (.cells #[.string ⟨a_s.toArray⟩, .string ⟨a_p.toArray⟩, .int .i64 a_n, .bool a_v0, .string ⟨a_l0.toArray⟩, .bool a_v1, .string ⟨a_l1.toArray⟩, .bool a_v2, .string ⟨a_l2.toArray⟩, .bool a_v3, .string ⟨a_l3.toArray⟩] 33)).alloc (.cells #[.string ⟨#[]⟩, .string ⟨#[]⟩, .int .i64 0, .bool false, .string ⟨#[]⟩, .bool false, .string ⟨#[]⟩, .bool false, .string ⟨#[]⟩, .bool false, .string ⟨#[]⟩] 33)) := ((Since.refl _).alloc _).alloc _
  have K1 : Hid (Cel ((w.alloc (.cells #[.string ⟨a_s.toArray⟩, .string ⟨a_p.toArray⟩, .int .i64 a_n, .bool a_v0, .string ⟨a_l0.toArray⟩, .bool a_v1, .string ⟨a_l1.toArray⟩, .bool a_v2, .string ⟨a_l2.toArray⟩, .bool a_v3, .string ⟨a_l3.toArray⟩] 33)).alloc (.cells #[.string ⟨#[]⟩, .string ⟨#[]⟩, .int .i64 0, .bool false, .string ⟨#[]⟩, .bool false, .string ⟨#[]⟩, .bool false, .string ⟨#[]⟩, .bool false, .string ⟨#[]⟩] 33)) w.heap.size #[.string ⟨a_s.toArray⟩, .string ⟨a_p.toArray⟩, .int .i64 a_n, .bool a_v0, .string ⟨a_l0.toArray⟩, .bool a_v1, .string ⟨a_l1.toArray⟩, .bool a_v2, .string ⟨a_l2.toArray⟩, .bool a_v3, .string ⟨a_l3.toArray⟩] 33) := (show Cel (w.alloc (.cells #[.string ⟨a_s.toArray⟩, .string ⟨a_p.toArray⟩, .int .i64 a_n, .bool a_v0, .string ⟨a_l0.toArray⟩, .bool a_v1, .string ⟨a_l1.toArray⟩, .bool a_v2, .string ⟨a_l2.toArray⟩, .bool a_v3, .string ⟨a_l3.toArray⟩] 33)) w.heap.size _ _ from heap_alloc_new w _).next ((Since.refl _).alloc _)
  have K2 : Hid (Cel ((w.alloc (.cells #[.string ⟨a_s.toArray⟩, .string ⟨a_p.toArray⟩, .int .i64 a_n, .bool a_v0, .string ⟨a_l0.toArray⟩, .bool a_v1, .string ⟨a_l1.toArray⟩, .bool a_v2, .string ⟨a_l2.toArray⟩, .bool a_v3, .string ⟨a_l3.toArray⟩] 33)).alloc (.cells #[.string ⟨#[]⟩, .string ⟨#[]⟩, .int .i64 0, .bool false, .string ⟨#[]⟩, .bool false, .string ⟨#[]⟩, .bool false, .string ⟨#[]⟩, .bool false, .string ⟨#[]⟩] 33)) (w.heap.size + 1) (atmC zeroAC) 33) := by
    have h := heap_alloc_new (w.alloc (.cells #[.string ⟨a_s.toArray⟩, .string ⟨a_p.toArray⟩, .int .i64 a_n, .bool a_v0, .string ⟨a_l0.toArray⟩, .bool a_v1, .string ⟨a_l1.toArray⟩, .bool a_v2, .string ⟨a_l2.toArray⟩, .bool a_v3, .string ⟨a_l3.toArray⟩] 33)) (.cells #[.string ⟨#[]⟩, .string ⟨#[]⟩, .int .i64 0, .bool false, .string ⟨#[]⟩, .bool false, .string ⟨#[]⟩, .bool false, .string ⟨#[]⟩, .bool false, .string ⟨#[]⟩] 33)
    rw [World.size_alloc] at h
    exact h
  go_enter Tryz.func34, Tryz.ntmps34
  go_upto_region 1 with (fail)
  generalize hw1 : ((w.alloc (.cells #[.string ⟨a_s.toArray⟩, .string ⟨a_p.toArray⟩, .int .i64 a_n, .bool a_v0, .string ⟨a_l0.toArray⟩, .bool a_v1, .string ⟨a_l1.toArray⟩, .bool a_v2, .string ⟨a_l2.toArray⟩, .bool a_v3, .string ⟨a_l3.toArray⟩] 33)).alloc (.cells #[.string ⟨#[]⟩, .string ⟨#[]⟩, .int .i64 0, .bool false, .string ⟨#[]⟩, .bool false, .string ⟨#[]⟩, .bool false, .string ⟨#[]⟩, .bool false, .string ⟨#[]⟩] 33)) = w1 at *
  clear hw1
  obtain ⟨a0, a1, a2, a3, a4, a5, a6, a7, a8, a9, a10⟩ := (cel_boxA (x := ((a_s, a_p, a_n, (a_v0, a_l0), (a_v1, a_l1), (a_v2, a_l2), (a_v3, a_l3)) : Atm)) K1.out).all
  go_wp2_with fail
  refine (HVA.out _).mono ?_
  rintro e w2 ⟨vn, rfl, hO, hb2⟩
  have hS2 := hS1.trans hb2
  have hK10 : Hid (Cel w2 w.heap.size (atmC (partC NS 0 ((a_s, a_p, a_n, (a_v0, a_l0), (a_v1, a_l1), (a_v2, a_l2), (a_v3, a_l3)) : Atm))) 33) := K1.out.next hb2
  have hK2 := Lib.hid (K2.out.next hb2)
  have HO := Lib.hid hO
  have HNE := Lib.hid (own_cel_ne hO hK10.out (by decide))
  clear a0 a1 a2 a3 a4 a5 a6 a7 a8 a9 a10 HVA K1 K2 hb2 hS1 hO
  obtain ⟨va, vc, rfl⟩ := (krow_ownT HO.out).slice
  go_wp2_with fail
  go_loopw [4, 5] (fun i _ wr => ∃ k : Nat, k ≤ n ∧ i = .int .i64 (k : Int) ∧ w2.grownBy wr (some w.heap.size) ∧ Since w wr ∧ Hid (Cel wr w.heap.size (atmC (partC NS k ((a_s, a_p, a_n, (a_v0, a_l0), (a_v1, a_l1), (a_v2, a_l2), (a_v3, a_l3)) : Atm))) 33) ∧ Hid (Cel wr (w.heap.size + 1) (atmC zeroAC) 33)) (fun i _ _ => n - (intOf i).toNat)
  case atStart => exact ⟨0, by omega, rfl, World.grownBy.refl _ _, hS2, hK10.out, hK2.out⟩
  case round =>
  rename World => wo
  clear hK10 hK2
  obtain ⟨k, hk, rfl, hg, hS, K1, K2⟩ := hrel
  have hRo : Hid (TRow wo (.slice va NS.length vc) NS) := krow_ownT (HO.out.kept hg HNE.out)
  have hcx : countA (partC NS k ((a_s, a_p, a_n, (a_v0, a_l0), (a_v1, a_l1), (a_v2, a_l2), (a_v3, a_l3)) : Atm)) = n := by rw [hnc.out]; rfl
  obtain ⟨y, hy⟩ : ∃ y, Hid (y = partC NS k ((a_s, a_p, a_n, (a_v0, a_l0), (a_v1, a_l1), (a_v2, a_l2), (a_v3, a_l3)) : Atm)) := ⟨_, rfl⟩
  have K1y := K1.out
  rw [← hy.out] at K1y hcx
  obtain ⟨y_s, y_p, y_n, ⟨y_v0, y_l0⟩, ⟨y_v1, y_l1⟩, ⟨y_v2, y_l2⟩, ⟨y_v3, y_l3⟩⟩ := y
  obtain ⟨y_c0, y_c1, y_c2, y_c3, y_c4, y_c5, y_c6, y_c7, y_c8, y_c9, y_c10⟩ := (cel_boxA (x := ((y_s, y_p, y_n, (y_v0, y_l0), (y_v1, y_l1), (y_v2, y_l2), (y_v3, y_l3)) : Atm)) K1y).all
  have HCN := Lib.hid (fun W => rcount_any y_s y_p y_n y_v0 y_v1 y_v2 y_v3 y_l0 y_l1 y_l2 y_l3 W)
  rw [hcx] at HCN
  clear K1y hcx hy
  go_wp2_with fail
  refine (HCN.out _).mono ?_
  rintro e w3 ⟨rfl, hb3⟩
  clear y_c0 y_c1 y_c2 y_c3 y_c4 y_c5 y_c6 y_c7 y_c8 y_c9 y_c10 HCN
  have K1c := Lib.hid (K1.out.next hb3)
  have K2c := Lib.hid (K2.out.next hb3)
  have hRc := Lib.hid (tnext hRo.out hb3)
  have hSc := hS.trans hb3
  by_cases hlt : k < n
  · have hlt2 : (k : Int) < (n : Int) := by omega
    have hk4 : k < 4 := by omega
    have hk4i : (k : Int) < 4 := by omega
    have ha4 : k < (argsL (partC NS k ((a_s, a_p, a_n, (a_v0, a_l0), (a_v1, a_l1), (a_v2, a_l2), (a_v3, a_l3)) : Atm))).length := by rw [argsL_len]; exact hk4
    have hb4 : k < (argsL ((a_s, a_p, a_n, (a_v0, a_l0), (a_v1, a_l1), (a_v2, a_l2), (a_v3, a_l3)) : Atm)).length := by rw [argsL_len]; exact hk4
    have hcc : k < countA ((a_s, a_p, a_n, (a_v0, a_l0), (a_v1, a_l1), (a_v2, a_l2), (a_v3, a_l3)) : Atm) := by rw [← hnc.out]; exact hlt
    obtain ⟨d0, d1⟩ := (cel_boxA K1c.out).args.2 k ha4
    have hst := partC_set NS ((a_s, a_p, a_n, (a_v0, a_l0), (a_v1, a_l1), (a_v2, a_l2), (a_v3, a_l3)) : Atm) k hk4 ha4
    have hsk := partC_skip NS ((a_s, a_p, a_n, (a_v0, a_l0), (a_v1, a_l1), (a_v2, a_l2), (a_v3, a_l3)) : Atm) k hk4 ha4
    have hpa := partC_at NS ((a_s, a_p, a_n, (a_v0, a_l0), (a_v1, a_l1), (a_v2, a_l2), (a_v3, a_l3)) : Atm) k ha4 hb4
    have hvp := var_pos hcc hb4
    rw [hpa] at d0 d1 hst hsk
    rw [← hNS.out] at hvp
    generalize (argsL ((a_s, a_p, a_n, (a_v0, a_l0), (a_v1, a_l1), (a_v2, a_l2), (a_v3, a_l3)) : Atm))[k]'hb4 = t at *
    obtain ⟨tv, tl⟩ := t
    simp only at d0 d1 hst hsk hvp
    clear hpa
    cases tv
    case false =>
      have hsk2 := Lib.hid (hsk rfl)
      clear hst hsk hvp
      go_wp2_with fail
      go_loopw [5] (fun m wr => m = .int .i64 0 ∧ w3 = wr) (fun _ _ => 0)
      case atStart => exact ⟨rfl, rfl⟩
      case round =>
      obtain ⟨rfl, rfl⟩ := hrel
      by_cases h0 : 0 < NS.length
      · have h1 : (0 : Int) < (NS.length : Int) := by omega
        go_wp2_with fail
        go_roundw
        case rel => exact ⟨k + 1, by omega, by go_num, World.grownBy.trans hg (sinceG hb3 _), hSc, by rw [hsk2.out]; exact K1c.out, K2c.out⟩
        case measure => simp [intOf]; omega
      · have h1 : ¬ (0 : Int) < (NS.length : Int) := by omega
        go_wp2_with fail
        go_roundw
        case rel => exact ⟨k + 1, by omega, by go_num, World.grownBy.trans hg (sinceG hb3 _), hSc, by rw [hsk2.out]; exact K1c.out, K2c.out⟩
        case measure => simp [intOf]; omega
    case true =>
      have HST := Lib.hid (hst rfl)
      obtain ⟨jj, hjj⟩ := hvp rfl
      have HJ := Lib.hid hjj
      clear hst hsk hvp hjj
      go_wp2_with fail
      go_loopw [5] (fun m wr => ∃ q : Nat, q ≤ NS.length ∧ m = .int .i64 (q : Int) ∧ Since w3 wr ∧ Hid (posF (NS.take q) tl 0 = none)) (fun m _ => NS.length - (intOf m).toNat)
      case atStart => exact ⟨0, by omega, rfl, Since.refl _, rfl⟩
      case round =>
      rename World => wi
      obtain ⟨q, hq, rfl, hSi, hnone⟩ := hrel
      have e0 := hSi.cell d0
      have e1 := hSi.cell d1
      by_cases hql : q < NS.length
      · have hq2 : (q : Int) < (NS.length : Int) := by omega
        have hq0 : (0 : Int) ≤ (q : Int) := by omega
        have hk0 : (0 : Int) ≤ (k : Int) := by omega
        obtain ⟨bn, on, en, hcn, hat⟩ := hRc.out.get (by omega)
        have r1 := hSi.cell (hat q hql)
        have hhere := fun h => posF_here (a := tl) hql hnone.out h
        have hnot := fun h => posF_not (a := tl) hql hnone.out h
        obtain ⟨z, hz⟩ : ∃ z, Hid (z = NS[q]) := ⟨NS[q], rfl⟩
        rw [← hz.out] at r1 hhere hnot
        have rA : At wi bn (on + q) #[.string ⟨z.toArray⟩] := At.one (by simpa [strV] using r1)
        have eA : At wi w.heap.size (3 + k * 2 + 1) #[.string ⟨tl.toArray⟩] := At.one e1
        subst en
        clear hat r1 hz
        by_cases hzt : z = tl
        · have hidx := hhere hzt
          have hq4 : q < 4 := by omega
          have heq : (z == tl) = true := by rw [hzt]; exact beq_self_eq_true _
          rw [hidx] at HST
          simp only [Option.getD_some] at HST
          have K1i := Lib.hid (K1c.out.next hSi)
          have K2i := Lib.hid (K2c.out.next hSi)
          have c1 : (ByteArray.mk #[86]) ++ (ByteArray.mk (Lib.decDigits q).toArray) = ByteArray.mk (vN q).toArray := by
            apply ByteArray.ext
            simp [vN]
          have ha1 := fun W => run_catC c1 (by show 1 + (Lib.decDigits q).length ≤ 1000000; have := digits4 hq4; omega) W
          clear c1 hhere hnot
          go_wp2_with fail
          have hS9 := hSi
          replace hS9 := hS9.trans ((Since.refl wi).drew)
          replace rA := rA.next ((Since.refl wi).drew)
          replace eA := eA.next ((Since.refl wi).drew)
          refine hx_begin (S := fun W => (Since w3 W) ∧ (At W bn (on + q) #[.string ⟨z.toArray⟩]) ∧ (At W w.heap.size (3 + k * 2 + 1) #[.string ⟨tl.toArray⟩])) (by kernel_rfl) ⟨hS9, rA, eA⟩ (by kernel_rfl) (fun _ _ _ _ _ h => h) (fun hns hQ => ?_)
          refine hx_take (i := 0) (oi := _) (v := .slice (some ⟨bn, on, none⟩) NS.length vc) rfl rfl hns (by kernel_rfl) (by kernel_rfl) hQ (by kernel_rfl) (fun _ _ => by kernel_rfl) ⟨hS9, rA, eA⟩ ?_
          refine hx_take (i := 1) (oi := _) (v := .int .i64 (q : Int)) rfl rfl hns (by kernel_rfl) (by kernel_rfl) hQ (by kernel_rfl) (fun _ _ => by kernel_rfl) ⟨hS9, rA, eA⟩ ?_
          refine hx_take (i := 2) (oi := _) (v := .pointer (some ⟨bn, on + q, none⟩)) rfl rfl hns (by kernel_rfl) (by kernel_rfl) hQ (by kernel_rfl) (fun W _ => ix_sl1 (n := NS.length) (c := vc) rfl (by kernel_rfl) (by kernel_rfl) (by kernel_rfl) rfl hql W) ⟨hS9, rA, eA⟩ ?_
          refine hx_take (i := 3) (oi := _) (v := .string ⟨z.toArray⟩) rfl rfl hns (by kernel_rfl) (by kernel_rfl) hQ (by kernel_rfl) (fun W hW => ld_one rfl (by kernel_rfl) (by kernel_rfl) W (hW.2.1 0 _ rfl)) ⟨hS9, rA, eA⟩ ?_
          refine hx_take (i := 4) (oi := _) (v := .int .i64 (k : Int)) rfl rfl hns (by kernel_rfl) (by kernel_rfl) hQ (by kernel_rfl) (fun _ _ => by kernel_rfl) ⟨hS9, rA, eA⟩ ?_
          refine hx_take (i := 5) (oi := _) (v := .pointer (some ⟨w.heap.size, 3, none⟩)) rfl rfl hns (by kernel_rfl) (by kernel_rfl) hQ (by kernel_rfl) (fun _ _ => by kernel_rfl) ⟨hS9, rA, eA⟩ ?_
          refine hx_take (i := 6) (oi := _) (v := .pointer (some ⟨w.heap.size, 3 + k * 2, none⟩)) rfl rfl hns (by kernel_rfl) (by kernel_rfl) hQ (by kernel_rfl) (fun W _ => ix_ar (n := 4) (K := 2) rfl (by kernel_rfl) (by kernel_rfl) (by kernel_rfl) rfl hk4 W) ⟨hS9, rA, eA⟩ ?_
          refine hx_take (i := 7) (oi := _) (v := .pointer (some ⟨w.heap.size, 3 + k * 2 + 1, none⟩)) rfl rfl hns (by kernel_rfl) (by kernel_rfl) hQ (by kernel_rfl) (fun _ _ => by kernel_rfl) ⟨hS9, rA, eA⟩ ?_
          refine hx_take (i := 8) (oi := _) (v := .string ⟨tl.toArray⟩) rfl rfl hns (by kernel_rfl) (by kernel_rfl) hQ (by kernel_rfl) (fun W hW => ld_one rfl (by kernel_rfl) (by kernel_rfl) W (hW.2.2 0 _ rfl)) ⟨hS9, rA, eA⟩ ?_
          refine hx_take (i := 9) (oi := _) (v := .bool true) rfl rfl hns (by kernel_rfl) (by kernel_rfl) hQ (by kernel_rfl) (fun W _ => bin_valC (eql_txt rfl (by kernel_rfl) (by kernel_rfl) W) heq) ⟨hS9, rA, eA⟩ ?_
          refine wpAnyH_done (by kernel_rfl) ?_ _
          clear hns hQ
          simp only [List.set_cons_zero, List.set_cons_succ]
          clear rA eA
          go_wp2_with fail
          refine (rdigits q hq4 _).mono ?_
          rintro e w8 ⟨rfl, hb8⟩
          have hS8 := hS9.trans hb8
          have K18 := K1c.out.next hS8
          have K28 := K2c.out.next hS8
          have e8 := hb8.cell (hS9.cell d1)
          have f8 : w8.frozen? ⟨w.heap.size, 3 + k * 2 + 1, none⟩ = false := K18.free _
          clear e0 e1 d0 d1
          go_wp2_with fail
          go_roundw
          case rel => exact ⟨k + 1, by omega, by go_num, World.grownBy.trans (World.grownBy.trans hg (sinceG (hb3.trans hS8) _)) (grown_setCell w8 w.heap.size _ _), (hSc.trans hS8).setCell (Nat.le_refl _) _, K18.set HST.out, K28.far (by simp) _⟩
          case measure => simp [intOf]; omega
        · have heq : (z == tl) = false := beq_false_of_ne hzt
          have hn2 := Lib.hid (hnot hzt)
          clear hhere hnot
          go_wp2_with fail
          have hS9 := hSi
          replace hS9 := hS9.trans ((Since.refl wi).drew)
          replace rA := rA.next ((Since.refl wi).drew)
          replace eA := eA.next ((Since.refl wi).drew)
          refine hx_begin (S := fun W => (Since w3 W) ∧ (At W bn (on + q) #[.string ⟨z.toArray⟩]) ∧ (At W w.heap.size (3 + k * 2 + 1) #[.string ⟨tl.toArray⟩])) (by kernel_rfl) ⟨hS9, rA, eA⟩ (by kernel_rfl) (fun _ _ _ _ _ h => h) (fun hns hQ => ?_)
          refine hx_take (i := 0) (oi := _) (v := .slice (some ⟨bn, on, none⟩) NS.length vc) rfl rfl hns (by kernel_rfl) (by kernel_rfl) hQ (by kernel_rfl) (fun _ _ => by kernel_rfl) ⟨hS9, rA, eA⟩ ?_
          refine hx_take (i := 1) (oi := _) (v := .int .i64 (q : Int)) rfl rfl hns (by kernel_rfl) (by kernel_rfl) hQ (by kernel_rfl) (fun _ _ => by kernel_rfl) ⟨hS9, rA, eA⟩ ?_
          refine hx_take (i := 2) (oi := _) (v := .pointer (some ⟨bn, on + q, none⟩)) rfl rfl hns (by kernel_rfl) (by kernel_rfl) hQ (by kernel_rfl) (fun W _ => ix_sl1 (n := NS.length) (c := vc) rfl (by kernel_rfl) (by kernel_rfl) (by kernel_rfl) rfl hql W) ⟨hS9, rA, eA⟩ ?_
          refine hx_take (i := 3) (oi := _) (v := .string ⟨z.toArray⟩) rfl rfl hns (by kernel_rfl) (by kernel_rfl) hQ (by kernel_rfl) (fun W hW => ld_one rfl (by kernel_rfl) (by kernel_rfl) W (hW.2.1 0 _ rfl)) ⟨hS9, rA, eA⟩ ?_
          refine hx_take (i := 4) (oi := _) (v := .int .i64 (k : Int)) rfl rfl hns (by kernel_rfl) (by kernel_rfl) hQ (by kernel_rfl) (fun _ _ => by kernel_rfl) ⟨hS9, rA, eA⟩ ?_
          refine hx_take (i := 5) (oi := _) (v := .pointer (some ⟨w.heap.size, 3, none⟩)) rfl rfl hns (by kernel_rfl) (by kernel_rfl) hQ (by kernel_rfl) (fun _ _ => by kernel_rfl) ⟨hS9, rA, eA⟩ ?_
          refine hx_take (i := 6) (oi := _) (v := .pointer (some ⟨w.heap.size, 3 + k * 2, none⟩)) rfl rfl hns (by kernel_rfl) (by kernel_rfl) hQ (by kernel_rfl) (fun W _ => ix_ar (n := 4) (K := 2) rfl (by kernel_rfl) (by kernel_rfl) (by kernel_rfl) rfl hk4 W) ⟨hS9, rA, eA⟩ ?_
          refine hx_take (i := 7) (oi := _) (v := .pointer (some ⟨w.heap.size, 3 + k * 2 + 1, none⟩)) rfl rfl hns (by kernel_rfl) (by kernel_rfl) hQ (by kernel_rfl) (fun _ _ => by kernel_rfl) ⟨hS9, rA, eA⟩ ?_
          refine hx_take (i := 8) (oi := _) (v := .string ⟨tl.toArray⟩) rfl rfl hns (by kernel_rfl) (by kernel_rfl) hQ (by kernel_rfl) (fun W hW => ld_one rfl (by kernel_rfl) (by kernel_rfl) W (hW.2.2 0 _ rfl)) ⟨hS9, rA, eA⟩ ?_
          refine hx_take (i := 9) (oi := _) (v := .bool false) rfl rfl hns (by kernel_rfl) (by kernel_rfl) hQ (by kernel_rfl) (fun W _ => bin_valC (eql_txt rfl (by kernel_rfl) (by kernel_rfl) W) heq) ⟨hS9, rA, eA⟩ ?_
          refine wpAnyH_done (by kernel_rfl) ?_ _
          clear hns hQ
          simp only [List.set_cons_zero, List.set_cons_succ]
          clear rA eA
          go_wp2_with fail
          go_roundw
          case rel => exact ⟨q + 1, by omega, by go_num, hS9, hn2.out⟩
          case measure => simp [intOf]; omega
      · exfalso
        have h1 := hnone.out
        rw [List.take_of_length_le (by omega), HJ.out] at h1
        cases h1
  · have hlt2 : ¬ (k : Int) < (n : Int) := by omega
    have hfin : Hid (partC NS k ((a_s, a_p, a_n, (a_v0, a_l0), (a_v1, a_l1), (a_v2, a_l2), (a_v3, a_l3)) : Atm) = canA ((a_s, a_p, a_n, (a_v0, a_l0), (a_v1, a_l1), (a_v2, a_l2), (a_v3, a_l3)) : Atm)) := by
      show _ = _
      rw [hNS.out, show k = countA ((a_s, a_p, a_n, (a_v0, a_l0), (a_v1, a_l1), (a_v2, a_l2), (a_v3, a_l3)) : Atm) by rw [← hnc.out]; omega]; rfl
    generalize partC NS k ((a_s, a_p, a_n, (a_v0, a_l0), (a_v1, a_l1), (a_v2, a_l2), (a_v3, a_l3)) : Atm) = x at *
    obtain ⟨x_s, x_p, x_n, ⟨x_v0, x_l0⟩, ⟨x_v1, x_l1⟩, ⟨x_v2, x_l2⟩, ⟨x_v3, x_l3⟩⟩ := x
    obtain ⟨x0, x1, x2, x3, x4, x5, x6, x7, x8, x9, x10⟩ := (cel_boxA (x := ((x_s, x_p, x_n, (x_v0, x_l0), (x_v1, x_l1), (x_v2, x_l2), (x_v3, x_l3)) : Atm)) K1c.out).all
    have hone : Hid (((#[.string ⟨x_s.toArray⟩, .string ⟨x_p.toArray⟩, .int .i64 x_n, .bool x_v0, .string ⟨x_l0.toArray⟩, .bool x_v1, .string ⟨x_l1.toArray⟩, .bool x_v2, .string ⟨x_l2.toArray⟩, .bool x_v3, .string ⟨x_l3.toArray⟩] : Array Value).all (·.oneCell')) = true) := by show _ = _; simp [Value.oneCell']
    go_wp2_with (refine wpList_store_row rfl 33 (.tmp 2) (.tmp 44) rfl (w.heap.size + 1) #[.string ⟨x_s.toArray⟩, .string ⟨x_p.toArray⟩, .int .i64 x_n, .bool x_v0, .string ⟨x_l0.toArray⟩, .bool x_v1, .string ⟨x_l1.toArray⟩, .bool x_v2, .string ⟨x_l2.toArray⟩, .bool x_v3, .string ⟨x_l3.toArray⟩] rfl rfl 33 (atmC zeroAC) K2c.out ainfoC rfl hone.out ?_)
    have hbx : Box (w3.setRow (w.heap.size + 1) #[.string ⟨x_s.toArray⟩, .string ⟨x_p.toArray⟩, .int .i64 x_n, .bool x_v0, .string ⟨x_l0.toArray⟩, .bool x_v1, .string ⟨x_l1.toArray⟩, .bool x_v2, .string ⟨x_l2.toArray⟩, .bool x_v3, .string ⟨x_l3.toArray⟩]) (w.heap.size + 1) ((x_s, x_p, x_n, (x_v0, x_l0), (x_v1, x_l1), (x_v2, x_l2), (x_v3, x_l3)) : Atm) := cel_boxA (T := 33) (K2c.out.row (atmC ((x_s, x_p, x_n, (x_v0, x_l0), (x_v1, x_l1), (x_v2, x_l2), (x_v3, x_l3)) : Atm)))
    obtain ⟨e0, e1, e2, e3, e4, e5, e6, e7, e8, e9, e10⟩ := hbx.all
    refine bodyPost_ret (v := .agg #[.string ⟨x_s.toArray⟩, .string ⟨x_p.toArray⟩, .int .i64 x_n, .bool x_v0, .string ⟨x_l0.toArray⟩, .bool x_v1, .string ⟨x_l1.toArray⟩, .bool x_v2, .string ⟨x_l2.toArray⟩, .bool x_v3, .string ⟨x_l3.toArray⟩]) (by simp [results, Tryz.results34, go_sem, e0, e1, e2, e3, e4, e5, e6, e7, e8, e9, e10]) rfl ?_
    exact ⟨by rw [← hfin.out]; rfl, since_setRow hSc (Nat.le_succ _) _⟩
end Go.Proofs.YtbgdljcgbhhfdaaGreatDoor
