/- Same[int], SameSteps: lists of ints, of steps, one for one. -/
import Derived.Test.YtiadjmfdahendaaDoorCertL
import Derived.Test.YtiadjmfdahendaaDoorEq
namespace Go.Proofs.YtiadjmfdahendaaDoor
open Go.RowKit
attribute [local go_sem ↓] run_atomEq

theorem drop_eqI {α : Type} [DecidableEq α] {L1 L2 : List α} {k : Nat} (h1 : k < L1.length) (h2 : k < L2.length) : decide (L1.drop k = L2.drop k) = (decide (L1[k] = L2[k]) && decide (L1.drop (k + 1) = L2.drop (k + 1))) := by
  rw [List.drop_eq_getElem_cons h1, List.drop_eq_getElem_cons h2, Bool.eq_iff_iff, Bool.and_eq_true, decide_eq_true_eq, decide_eq_true_eq, decide_eq_true_eq, List.cons.injEq]
set_option maxHeartbeats 400000 in
theorem same_int (v1 v2 : Value) (L1 L2 : List Int) (w : World) (h1 : CiteRow w v1 L1) (h2 : CiteRow w v2 L2) (hm1 : L1.length ≤ 1000000) (hm2 : L2.length ≤ 1000000) :
    Calls Tryd.prog 32 #[v1, v2] w fun e w' => e = .returned (.bool (decide (L1 = L2))) ∧ ∃ m, w' = w.drewN m := by
  obtain ⟨a1, c1, rfl⟩ := h1.len
  obtain ⟨a2, c2, rfl⟩ := h2.len
  by_cases hl : L1.length = L2.length
  · have hq : ((L1.length : Int) != (L2.length : Int)) = false := by simp [hl]
    have HL := Lib.hid hl
    have H1 := Lib.hid h1
    have H2 := Lib.hid h2
    clear hl h1 h2
    go_enter Tryd.func32, Tryd.ntmps32
    go_wp2
    go_loopw [5] (fun i wr => ∃ k : Nat, k ≤ L1.length ∧ i = .int .i64 k ∧ Hid (decide (L1 = L2) = decide (L1.drop k = L2.drop k)) ∧ ∃ m, wr = w.drewN m) (fun i _ => L1.length - (intOf i).toNat)
    case atStart => exact ⟨0, Nat.zero_le _, rfl, rfl, 0, rfl⟩
    case round =>
      obtain ⟨k, hk, rfl, hres, m, rfl⟩ := hrel
      by_cases hlt : k < L1.length
      · have hlt2 : k < L2.length := by rw [← HL.out]; exact hlt
        obtain ⟨b1, o1, c1', he1, _, hc1⟩ := H1.out.some (by omega)
        cases he1
        obtain ⟨b2, o2, c2', he2, _, hc2⟩ := H2.out.some (by omega)
        cases he2
        have d1 := hc1 k (by simpa using hlt)
        have d2 := hc2 k (by simpa using hlt2)
        simp only [List.getElem_map, intV] at d1 d2
        have hst := drop_eqI hlt hlt2
        have HST := Lib.hid hst
        clear hst hc1 hc2
        have hk2 : (k : Int) < (L2.length : Int) := by omega
        generalize L1[k] = x at *
        generalize L2[k] = y at *
        cases he : (x == y)
        · go_wp2
          go_quiet (fail)
          go_wp2
          go_ret
          refine ⟨ret_bool ?_, ?_⟩
          · have hn : x ≠ y := by simpa using he
            rw [hres.out, HST.out, decide_eq_false hn, Bool.false_and]
          · first | exact ⟨_, rfl⟩ | exact ⟨_, by rw [World.drewN_drewN]⟩
        · have hx : x = y := by simpa using he
          subst hx
          clear he
          go_wp2
          go_quiet (fail)
          go_wp2
          go_roundw
          case rel =>
            refine ⟨k + 1, by omega, by go_num, ?_, ?_⟩
            · show _ = _
              rw [hres.out, HST.out]; simp
            · first | exact ⟨_, rfl⟩ | exact ⟨_, by rw [World.drewN_drewN]⟩
          case measure => simp [intOf]; omega
      · go_wp2
        go_ret
        refine ⟨ret_bool ?_, m, rfl⟩
        rw [hres.out, List.drop_eq_nil_of_le (by omega), List.drop_eq_nil_of_le (by rw [← HL.out]; omega)]
        simp
  · have hq : ((L1.length : Int) != (L2.length : Int)) = true := by simp; omega
    clear h1 h2
    go_enter Tryd.func32, Tryd.ntmps32
    go_wp2
    go_ret
    exact ⟨ret_bool (by rw [eq_comm]; exact decide_eq_false (fun e => hl (by rw [e]))), 0, rfl⟩

def eqX (x y : Stp) : Bool := eqA x.1 y.1 && ((x.2.1 == y.2.1) && decide (x.2.2 = y.2.2))
theorem eqX_iff {x y : Stp} : eqX x y = true ↔ x = y := by
  obtain ⟨a, cl, cs⟩ := x
  obtain ⟨b, dl, ds⟩ := y
  rw [eqX, Bool.and_eq_true, Bool.and_eq_true, eqA_iff, beq_iff_eq, decide_eq_true_eq]
  constructor
  · rintro ⟨h1, h2, h3⟩; simp only at h1 h2 h3; rw [h1, h2, h3]
  · intro h; injection h with h1 h2; injection h2 with h2 h3; exact ⟨h1, h2, h3⟩
def sameSB : List Stp → List Stp → Bool
  | [], [] => true
  | x :: r, y :: q => eqX x y && sameSB r q
  | _, _ => false
theorem sameSB_iff : ∀ {L M : List Stp}, sameSB L M = true ↔ L = M
  | [], [] => by simp [sameSB]
  | x :: r, y :: q => by rw [sameSB, Bool.and_eq_true, eqX_iff, sameSB_iff, List.cons.injEq]
  | [], y :: q => by simp [sameSB]
  | x :: r, [] => by simp [sameSB]
theorem sameSB_drop {L M : List Stp} {k : Nat} (h1 : k < L.length) (h2 : k < M.length) : sameSB (L.drop k) (M.drop k) = (eqX L[k] M[k] && sameSB (L.drop (k + 1)) (M.drop (k + 1))) := by
  rw [List.drop_eq_getElem_cons h1, List.drop_eq_getElem_cons h2, sameSB]
set_option maxHeartbeats 4000000 in
set_option maxRecDepth 100000 in
theorem sameS_any (v1 v2 : Value) (L1 L2 : List Stp) (w : World) (h1 : StpRow w v1 L1) (h2 : StpRow w v2 L2) (hm1 : L1.length ≤ 1000000) (hm2 : L2.length ≤ 1000000) (hc1 : ∀ x ∈ L1, x.2.2.length ≤ 1000000) (hc2 : ∀ x ∈ L2, x.2.2.length ≤ 1000000) :
    Calls Tryd.prog 14 #[v1, v2] w fun e w' => e = .returned (.bool (sameSB L1 L2)) ∧ Since w w' := by
  obtain ⟨a1, c1, rfl⟩ := h1.form
  obtain ⟨a2, c2, rfl⟩ := h2.form
  by_cases hl : L1.length = L2.length
  · have hq : ((L1.length : Int) != (L2.length : Int)) = false := by simp [hl]
    have HL := Lib.hid hl
    have H1 := Lib.hid h1
    have H2 := Lib.hid h2
    have HC1 := Lib.hid hc1
    have HC2 := Lib.hid hc2
    clear hl h1 h2 hc1 hc2
    go_enter Tryd.func14, Tryd.ntmps14
    go_wp2
    go_loopw [5] (fun i wr => ∃ k : Nat, k ≤ L1.length ∧ i = .int .i64 k ∧ Hid (sameSB L1 L2 = sameSB (L1.drop k) (L2.drop k)) ∧ Since w wr) (fun i _ => L1.length - (intOf i).toNat)
    case atStart => exact ⟨0, Nat.zero_le _, rfl, rfl, Since.refl _⟩
    case round =>
      obtain ⟨k, hk, rfl, hres, hS⟩ := hrel
      by_cases hlt : k < L1.length
      · have hlt2 : k < L2.length := by rw [← HL.out]; exact hlt
        obtain ⟨b1, o1, he1, hat1⟩ := H1.out.get (by omega)
        cases he1
        obtain ⟨b2, o2, he2, hat2⟩ := H2.out.get (by omega)
        cases he2
        have hs1 := (hat1 k hlt).next hS
        have hs2 := (hat2 k hlt2).next hS
        have hst := sameSB_drop hlt hlt2
        have HST := Lib.hid hst
        have hlc1 := HC1.out _ (List.getElem_mem hlt)
        have hlc2 := HC2.out _ (List.getElem_mem hlt2)
        clear hst
        clear hat1 hat2
        have hk2 : (k : Int) < (L2.length : Int) := by omega
        generalize L1[k] = x at *
        generalize L2[k] = y at *
        obtain ⟨⟨a_s, a_p, a_n, ⟨a_v0, a_l0⟩, ⟨a_v1, a_l1⟩, ⟨a_v2, a_l2⟩, ⟨a_v3, a_l3⟩⟩, cl, cs⟩ := x
        obtain ⟨⟨b_s, b_p, b_n, ⟨b_v0, b_l0⟩, ⟨b_v1, b_l1⟩, ⟨b_v2, b_l2⟩, ⟨b_v3, b_l3⟩⟩, dl, ds⟩ := y
        obtain ⟨a_c0, a_c1, a_c2, a_c3, a_c4, a_c5, a_c6, a_c7, a_c8, a_c9, a_c10⟩ := hs1.atom
        obtain ⟨b_c0, b_c1, b_c2, b_c3, b_c4, b_c5, b_c6, b_c7, b_c8, b_c9, b_c10⟩ := hs2.atom
        obtain ⟨_, k1, sa, sc, k2, hr1⟩ := hs1
        obtain ⟨_, k3, sb, sd, k4, hr2⟩ := hs2
        have k1' : wr.cell? ⟨b1, o1 + k * 13 + 11, none⟩ = some (.int .i64 cl) := k1
        have k2' : wr.cell? ⟨b1, o1 + k * 13 + 12, none⟩ = some (.slice sa cs.length sc) := k2
        have k3' : wr.cell? ⟨b2, o2 + k * 13 + 11, none⟩ = some (.int .i64 dl) := k3
        have k4' : wr.cell? ⟨b2, o2 + k * 13 + 12, none⟩ = some (.slice sb ds.length sd) := k4
        have hr1' : CiteRow wr (.slice sa cs.length sc) cs := hr1
        have hr2' : CiteRow wr (.slice sb ds.length sd) ds := hr2
        clear k1 k2 k3 k4 hr1 hr2
        have HSI : Hid (∀ n, Calls Tryd.prog 32 #[.slice sa cs.length sc, .slice sb ds.length sd] (wr.drewN n) fun e w' => e = .returned (.bool (decide (cs = ds))) ∧ ∃ m, w' = (wr.drewN n).drewN m) :=
          fun n => same_int _ _ cs ds _ (hr1'.next ((Since.refl _).drewN n)) (hr2'.next ((Since.refl _).drewN n)) hlc1 hlc2
        have hd : Hid (eqX (((a_s, a_p, a_n, (a_v0, a_l0), (a_v1, a_l1), (a_v2, a_l2), (a_v3, a_l3)) : Atm), cl, cs) (((b_s, b_p, b_n, (b_v0, b_l0), (b_v1, b_l1), (b_v2, b_l2), (b_v3, b_l3)) : Atm), dl, ds) = (eqA ((a_s, a_p, a_n, (a_v0, a_l0), (a_v1, a_l1), (a_v2, a_l2), (a_v3, a_l3)) : Atm) ((b_s, b_p, b_n, (b_v0, b_l0), (b_v1, b_l1), (b_v2, b_l2), (b_v3, b_l3)) : Atm) && ((cl == dl) && decide (cs = ds)))) := rfl
        cases g1 : eqA ((a_s, a_p, a_n, (a_v0, a_l0), (a_v1, a_l1), (a_v2, a_l2), (a_v3, a_l3)) : Atm) ((b_s, b_p, b_n, (b_v0, b_l0), (b_v1, b_l1), (b_v2, b_l2), (b_v3, b_l3)) : Atm) <;> cases g2 : (cl == dl) <;> cases g3 : decide (cs = ds)
        case true.true.true =>
          have HN : Hid (sameSB L1 L2 = sameSB (L1.drop (k + 1)) (L2.drop (k + 1))) := by
            show _ = _
            rw [hres.out, HST.out, hd.out, g1, g2, g3]; rfl
          rw [g3] at HSI
          have g4 : (cl != dl) = !(cl == dl) := rfl
          rw [g2] at g4
          simp only [Bool.not_true] at g4
          clear hd HST hres g3
          go_wp2
          go_quiet ((go_at_call 32; exact Calls.quiet_of (HSI.out _)))
          go_wp2
          go_roundw
          case rel => exact ⟨k + 1, by omega, by go_num, HN, hS.drewN _⟩
          case measure => simp [intOf]; omega
        all_goals
          have HN : Hid (sameSB L1 L2 = false) := by
            show _ = _
            rw [hres.out, HST.out, hd.out, g1, g2, g3]; rfl
          rw [g3] at HSI
          have g4 : (cl != dl) = !(cl == dl) := rfl
          rw [g2] at g4
          simp only [Bool.not_true, Bool.not_false] at g4
          clear hd HST hres g3
          go_wp2
          go_quiet ((go_at_call 32; exact Calls.quiet_of (HSI.out _)))
          go_wp2
          go_ret
          exact ⟨ret_bool HN.out.symm, hS.drewN _⟩
      · go_wp2
        go_ret
        refine ⟨ret_bool ?_, hS⟩
        rw [hres.out, List.drop_eq_nil_of_le (by omega), List.drop_eq_nil_of_le (by rw [← HL.out]; omega)]
        rfl
  · have hq : ((L1.length : Int) != (L2.length : Int)) = true := by simp; omega
    clear h1 h2
    go_enter Tryd.func14, Tryd.ntmps14
    go_wp2
    go_ret
    refine ⟨ret_bool ?_, Since.refl _⟩
    cases hs : sameSB L1 L2
    · rfl
    · exact absurd (by rw [sameSB_iff.1 hs]) hl
end Go.Proofs.YtiadjmfdahendaaDoor
