/- Slices of atoms; package order: Compare, Is; the odd ones of a response. -/
import Derived.Test.YtkdeokgkjmboeaaGreatDoorFrC
import Derived.Test.YtkdeokgkjmboeaaGreatDoorTermG
import Derived.Test.YtkdeokgkjmboeaaGreatDoorRow
namespace Go.Proofs.YtkdeokgkjmboeaaGreatDoor
open Go.RowKit

/-- An atom's cells in a row. -/
def AtAt (W : World) (b o : Nat) (x : Atm) : Prop := ∀ j u, (atmC x)[j]? = some u → W.cell? ⟨b, o + j, none⟩ = some u
theorem AtAt.next {W W' : World} {b o : Nat} {x : Atm} (h : AtAt W b o x) (hs : Since W W') : AtAt W' b o x := fun j u hu => hs.cell (h j u hu)
def AtmRow (W : World) (v : Value) (L : List Atm) : Prop :=
  ∃ a c, v = .slice a L.length c ∧ (0 < L.length → ∃ b o, a = some ⟨b, o, none⟩ ∧ L.length ≤ c ∧ ∀ k, (h : k < L.length) → AtAt W b (o + k * 11) L[k])
theorem AtmRow.next {W W' : World} {v : Value} {L : List Atm} (h : AtmRow W v L) (hs : Since W W') : AtmRow W' v L := by
  obtain ⟨a, c, h1, h2⟩ := h
  refine ⟨a, c, h1, fun h0 => ?_⟩
  obtain ⟨b, o, h3, h4, h5⟩ := h2 h0
  exact ⟨b, o, h3, h4, fun k hk => (h5 k hk).next hs⟩
theorem AtmRow.form {W : World} {v : Value} {L : List Atm} (h : AtmRow W v L) : ∃ a c, v = .slice a L.length c := by
  obtain ⟨a, c, h1, _⟩ := h
  exact ⟨a, c, h1⟩
theorem AtmRow.get {W : World} {a : Option Addr} {n c : Nat} {L : List Atm} (h : AtmRow W (.slice a n c) L) (h0 : 0 < L.length) : n = L.length ∧ ∃ b o, a = some ⟨b, o, none⟩ ∧ L.length ≤ c ∧ ∀ k, (h : k < L.length) → AtAt W b (o + k * 11) L[k] := by
  obtain ⟨a', c', h1, h2⟩ := h
  injection h1 with e1 e2 e3
  subst e1; subst e2; subst e3
  exact ⟨rfl, h2 h0⟩
theorem AtAt.all {W : World} {b o : Nat} (a_s a_p : List UInt8) (a_n : Int) (a_v0 a_v1 a_v2 a_v3 : Bool) (a_l0 a_l1 a_l2 a_l3 : List UInt8) (h : AtAt W b o ((a_s, a_p, a_n, (a_v0, a_l0), (a_v1, a_l1), (a_v2, a_l2), (a_v3, a_l3)) : Atm)) : W.cell? ⟨b, o, none⟩ = some (.string ⟨a_s.toArray⟩) ∧ W.cell? ⟨b, o + 1, none⟩ = some (.string ⟨a_p.toArray⟩) ∧ W.cell? ⟨b, o + 2, none⟩ = some (.int .i64 a_n) ∧ W.cell? ⟨b, o + 3, none⟩ = some (.bool a_v0) ∧ W.cell? ⟨b, o + 4, none⟩ = some (.string ⟨a_l0.toArray⟩) ∧ W.cell? ⟨b, o + 5, none⟩ = some (.bool a_v1) ∧ W.cell? ⟨b, o + 6, none⟩ = some (.string ⟨a_l1.toArray⟩) ∧ W.cell? ⟨b, o + 7, none⟩ = some (.bool a_v2) ∧ W.cell? ⟨b, o + 8, none⟩ = some (.string ⟨a_l2.toArray⟩) ∧ W.cell? ⟨b, o + 9, none⟩ = some (.bool a_v3) ∧ W.cell? ⟨b, o + 10, none⟩ = some (.string ⟨a_l3.toArray⟩) :=
  ⟨h 0 _ rfl, h 1 _ rfl, h 2 _ rfl, h 3 _ rfl, h 4 _ rfl, h 5 _ rfl, h 6 _ rfl, h 7 _ rfl, h 8 _ rfl, h 9 _ rfl, h 10 _ rfl⟩
def cmpA (a b : Atm) : Int := Lib.compareBytes (textA a) (textA b)
set_option maxHeartbeats 2000000 in
set_option maxRecDepth 100000 in
theorem compare_any (a_s a_p : List UInt8) (a_n : Int) (a_v0 a_v1 a_v2 a_v3 : Bool) (a_l0 a_l1 a_l2 a_l3 : List UInt8) (b_s b_p : List UInt8) (b_n : Int) (b_v0 b_v1 b_v2 b_v3 : Bool) (b_l0 b_l1 b_l2 b_l3 : List UInt8) (w : World) (ha : Light ((a_s, a_p, a_n, (a_v0, a_l0), (a_v1, a_l1), (a_v2, a_l2), (a_v3, a_l3)) : Atm)) (hb0 : Light ((b_s, b_p, b_n, (b_v0, b_l0), (b_v1, b_l1), (b_v2, b_l2), (b_v3, b_l3)) : Atm)) :
    Calls Tryz.prog 71 #[.agg #[.string ⟨a_s.toArray⟩, .string ⟨a_p.toArray⟩, .int .i64 a_n, .bool a_v0, .string ⟨a_l0.toArray⟩, .bool a_v1, .string ⟨a_l1.toArray⟩, .bool a_v2, .string ⟨a_l2.toArray⟩, .bool a_v3, .string ⟨a_l3.toArray⟩], .agg #[.string ⟨b_s.toArray⟩, .string ⟨b_p.toArray⟩, .int .i64 b_n, .bool b_v0, .string ⟨b_l0.toArray⟩, .bool b_v1, .string ⟨b_l1.toArray⟩, .bool b_v2, .string ⟨b_l2.toArray⟩, .bool b_v3, .string ⟨b_l3.toArray⟩]] w fun e w' => e = .returned (.int .i64 (cmpA ((a_s, a_p, a_n, (a_v0, a_l0), (a_v1, a_l1), (a_v2, a_l2), (a_v3, a_l3)) : Atm) ((b_s, b_p, b_n, (b_v0, b_l0), (b_v1, b_l1), (b_v2, b_l2), (b_v3, b_l3)) : Atm))) ∧ Since w w' := by
  have HA := Lib.hid (fun W => ttext_any a_s a_p a_n a_v0 a_v1 a_v2 a_v3 a_l0 a_l1 a_l2 a_l3 W ha)
  have HB := Lib.hid (fun W => ttext_any b_s b_p b_n b_v0 b_v1 b_v2 b_v3 b_l0 b_l1 b_l2 b_l3 W hb0)
  have hc : cmpA ((a_s, a_p, a_n, (a_v0, a_l0), (a_v1, a_l1), (a_v2, a_l2), (a_v3, a_l3)) : Atm) ((b_s, b_p, b_n, (b_v0, b_l0), (b_v1, b_l1), (b_v2, b_l2), (b_v3, b_l3)) : Atm) = Lib.compareBytes (textA ((a_s, a_p, a_n, (a_v0, a_l0), (a_v1, a_l1), (a_v2, a_l2), (a_v3, a_l3)) : Atm)) (textA ((b_s, b_p, b_n, (b_v0, b_l0), (b_v1, b_l1), (b_v2, b_l2), (b_v3, b_l3)) : Atm)) := rfl
  rw [hc]
  clear hc
  generalize textA ((a_s, a_p, a_n, (a_v0, a_l0), (a_v1, a_l1), (a_v2, a_l2), (a_v3, a_l3)) : Atm) = X at *
  generalize textA ((b_s, b_p, b_n, (b_v0, b_l0), (b_v1, b_l1), (b_v2, b_l2), (b_v3, b_l3)) : Atm) = Y at *
  have HCM := Lib.hid (fun W => Tryz.strings_Compare ⟨X.toArray⟩ ⟨Y.toArray⟩ W)
  have hS : Since w ((w.alloc (.cells #[.string ⟨a_s.toArray⟩, .string ⟨a_p.toArray⟩, .int .i64 a_n, .bool a_v0, .string ⟨a_l0.toArray⟩, .bool a_v1, .string ⟨a_l1.toArray⟩, .bool a_v2, .string ⟨a_l2.toArray⟩, .bool a_v3, .string ⟨a_l3.toArray⟩] 26)).alloc (.cells #[.string ⟨b_s.toArray⟩, .string ⟨b_p.toArray⟩, .int .i64 b_n, .bool b_v0, .string ⟨b_l0.toArray⟩, .bool b_v1, .string ⟨b_l1.toArray⟩, .bool b_v2, .string ⟨b_l2.toArray⟩, .bool b_v3, .string ⟨b_l3.toArray⟩] 26)) := ((Since.refl _).alloc _).alloc _
  have a_B : Box ((w.alloc (.cells #[.string ⟨a_s.toArray⟩, .string ⟨a_p.toArray⟩, .int .i64 a_n, .bool a_v0, .string ⟨a_l0.toArray⟩, .bool a_v1, .string ⟨a_l1.toArray⟩, .bool a_v2, .string ⟨a_l2.toArray⟩, .bool a_v3, .string ⟨a_l3.toArray⟩] 26)).alloc (.cells #[.string ⟨b_s.toArray⟩, .string ⟨b_p.toArray⟩, .int .i64 b_n, .bool b_v0, .string ⟨b_l0.toArray⟩, .bool b_v1, .string ⟨b_l1.toArray⟩, .bool b_v2, .string ⟨b_l2.toArray⟩, .bool b_v3, .string ⟨b_l3.toArray⟩] 26)) w.heap.size ((a_s, a_p, a_n, (a_v0, a_l0), (a_v1, a_l1), (a_v2, a_l2), (a_v3, a_l3)) : Atm) := (box_new w ((a_s, a_p, a_n, (a_v0, a_l0), (a_v1, a_l1), (a_v2, a_l2), (a_v3, a_l3)) : Atm) _).next ((Since.refl _).alloc _)
  have b_B : Box ((w.alloc (.cells #[.string ⟨a_s.toArray⟩, .string ⟨a_p.toArray⟩, .int .i64 a_n, .bool a_v0, .string ⟨a_l0.toArray⟩, .bool a_v1, .string ⟨a_l1.toArray⟩, .bool a_v2, .string ⟨a_l2.toArray⟩, .bool a_v3, .string ⟨a_l3.toArray⟩] 26)).alloc (.cells #[.string ⟨b_s.toArray⟩, .string ⟨b_p.toArray⟩, .int .i64 b_n, .bool b_v0, .string ⟨b_l0.toArray⟩, .bool b_v1, .string ⟨b_l1.toArray⟩, .bool b_v2, .string ⟨b_l2.toArray⟩, .bool b_v3, .string ⟨b_l3.toArray⟩] 26)) (w.heap.size + 1) ((b_s, b_p, b_n, (b_v0, b_l0), (b_v1, b_l1), (b_v2, b_l2), (b_v3, b_l3)) : Atm) := by
    have h := box_new (w.alloc (.cells #[.string ⟨a_s.toArray⟩, .string ⟨a_p.toArray⟩, .int .i64 a_n, .bool a_v0, .string ⟨a_l0.toArray⟩, .bool a_v1, .string ⟨a_l1.toArray⟩, .bool a_v2, .string ⟨a_l2.toArray⟩, .bool a_v3, .string ⟨a_l3.toArray⟩] 26)) ((b_s, b_p, b_n, (b_v0, b_l0), (b_v1, b_l1), (b_v2, b_l2), (b_v3, b_l3)) : Atm) 26
    rw [World.size_alloc] at h
    exact h
  obtain ⟨a_c0, a_c1, a_c2, a_c3, a_c4, a_c5, a_c6, a_c7, a_c8, a_c9, a_c10⟩ := a_B.all
  obtain ⟨b_c0, b_c1, b_c2, b_c3, b_c4, b_c5, b_c6, b_c7, b_c8, b_c9, b_c10⟩ := b_B.all
  clear ha hb0
  go_enter Tryz.func71, Tryz.ntmps71
  go_wp2_with fail
  go_region_held3 (fun w' => (w'.cell? ⟨w.heap.size, 0, none⟩ = some (.string ⟨a_s.toArray⟩) ∧ w'.cell? ⟨w.heap.size, 1, none⟩ = some (.string ⟨a_p.toArray⟩) ∧ w'.cell? ⟨w.heap.size, 2, none⟩ = some (.int .i64 a_n) ∧ w'.cell? ⟨w.heap.size, 3, none⟩ = some (.bool a_v0) ∧ w'.cell? ⟨w.heap.size, 4, none⟩ = some (.string ⟨a_l0.toArray⟩) ∧ w'.cell? ⟨w.heap.size, 5, none⟩ = some (.bool a_v1) ∧ w'.cell? ⟨w.heap.size, 6, none⟩ = some (.string ⟨a_l1.toArray⟩) ∧ w'.cell? ⟨w.heap.size, 7, none⟩ = some (.bool a_v2) ∧ w'.cell? ⟨w.heap.size, 8, none⟩ = some (.string ⟨a_l2.toArray⟩) ∧ w'.cell? ⟨w.heap.size, 9, none⟩ = some (.bool a_v3) ∧ w'.cell? ⟨w.heap.size, 10, none⟩ = some (.string ⟨a_l3.toArray⟩)) ∧ (w'.cell? ⟨w.heap.size + 1, 0, none⟩ = some (.string ⟨b_s.toArray⟩) ∧ w'.cell? ⟨w.heap.size + 1, 1, none⟩ = some (.string ⟨b_p.toArray⟩) ∧ w'.cell? ⟨w.heap.size + 1, 2, none⟩ = some (.int .i64 b_n) ∧ w'.cell? ⟨w.heap.size + 1, 3, none⟩ = some (.bool b_v0) ∧ w'.cell? ⟨w.heap.size + 1, 4, none⟩ = some (.string ⟨b_l0.toArray⟩) ∧ w'.cell? ⟨w.heap.size + 1, 5, none⟩ = some (.bool b_v1) ∧ w'.cell? ⟨w.heap.size + 1, 6, none⟩ = some (.string ⟨b_l1.toArray⟩) ∧ w'.cell? ⟨w.heap.size + 1, 7, none⟩ = some (.bool b_v2) ∧ w'.cell? ⟨w.heap.size + 1, 8, none⟩ = some (.string ⟨b_l2.toArray⟩) ∧ w'.cell? ⟨w.heap.size + 1, 9, none⟩ = some (.bool b_v3) ∧ w'.cell? ⟨w.heap.size + 1, 10, none⟩ = some (.string ⟨b_l3.toArray⟩)) ∧ Since w w')
    (first | (refine ⟨⟨?_, ?_, ?_, ?_, ?_, ?_, ?_, ?_, ?_, ?_, ?_⟩, ⟨?_, ?_, ?_, ?_, ?_, ?_, ?_, ?_, ?_, ?_, ?_⟩, ?_⟩ <;> first | assumption | (refine Since.drew ?_; assumption)) | (go_split_ands; refine ⟨⟨?_, ?_, ?_, ?_, ?_, ?_, ?_, ?_, ?_, ?_, ?_⟩, ⟨?_, ?_, ?_, ?_, ?_, ?_, ?_, ?_, ?_, ?_, ?_⟩, ?_⟩ <;> first | (refine Since.cell hb ?_; assumption) | (refine Since.trans ?_ hb; assumption) | assumption))
    (first
      | (go_at_call 91; first | ((with_reducible refine (HA.out _).mono ?_); rintro e w9 ⟨rfl, hb⟩) | ((with_reducible refine (HB.out _).mono ?_); rintro e w9 ⟨rfl, hb⟩))
      | (go_at_call 90; ((with_reducible refine (HCM.out _).mono ?_); rintro e w9 ⟨rfl, rfl⟩)))
  go_split_ands
  go_wp2_with fail
  go_ret
  exact ⟨rfl, by assumption⟩
/-- Are texts rising? -/
def isF : List Atm → Bool
  | a :: b :: r => decide (cmpA a b < 0) && isF (b :: r)
  | _ => true
theorem isF_short : ∀ {L : List Atm}, L.length ≤ 1 → isF L = true
  | [], _ => rfl
  | [_], _ => rfl
  | _ :: _ :: _, h => by simp at h
theorem isF_drop {L : List Atm} {m : Nat} (h1 : m < L.length) (h : m + 1 < L.length) : isF (L.drop m) = (decide (cmpA L[m] L[m + 1] < 0) && isF (L.drop (m + 1))) := by
  rw [List.drop_eq_getElem_cons h1, List.drop_eq_getElem_cons h, isF]
set_option maxHeartbeats 4000000 in
set_option maxRecDepth 100000 in
theorem is_any (v : Value) (L : List Atm) (w : World) (hv : AtmRow w v L) (hl : ∀ x ∈ L, Light x) (hm : L.length ≤ 1000000) :
    Calls Tryz.prog 50 #[v] w fun e w' => e = .returned (.bool (isF L)) ∧ Since w w' := by
  obtain ⟨a, c, rfl⟩ := hv.form
  have HV := Lib.hid hv
  have HL := Lib.hid hl
  obtain ⟨R, hR⟩ : ∃ R, Hid (R = isF L) := ⟨_, rfl⟩
  have hR0 : Hid (R = isF (L.drop (0 - 1))) := hR
  rw [← hR.out]
  clear hv hl hR
  go_enter Tryz.func50, Tryz.ntmps50
  go_wp2_with fail
  go_loopw [3, 6] (fun _ i wr => ∃ k : Nat, k ≤ L.length ∧ i = .int .i64 (k : Int) ∧ Since w wr ∧ Hid (R = isF (L.drop (k - 1)))) (fun _ i _ => L.length - (intOf i).toNat)
  case atStart => exact ⟨0, by omega, rfl, Since.refl _, hR0.out⟩
  case round =>
    clear hR0
    obtain ⟨k, hk, rfl, hS, hres⟩ := hrel
    by_cases hlt : k < L.length
    · cases k with
      | zero =>
        have h0 : decide ((0 : Int) < 0) = false := rfl
        have hres1 : Hid (R = isF (L.drop (0 + 1 - 1))) := hres
        clear hres
        go_wp2_with fail
        go_quiet (fail)
        go_wp2_with fail
        go_roundw
        case rel => exact ⟨1, by omega, by go_num, hS.drewN _, hres1.out⟩
        case measure => simp [intOf]; omega
      | succ m =>
        have hm1 : m < L.length := by omega
        obtain ⟨_, b, o, he, hc, hat⟩ := (HV.out.next hS).get (by omega)
        cases he
        have hx := hat m hm1
        have hy := hat (m + 1) hlt
        have lx := HL.out _ (List.getElem_mem hm1)
        have ly := HL.out _ (List.getElem_mem hlt)
        have hst := isF_drop hm1 hlt
        have hst2 : Hid (R = (decide (cmpA L[m] L[m + 1] < 0) && isF (L.drop (m + 1)))) := by show _ = _; rw [hres.out, ← hst]; rfl
        clear hat hst hres
        generalize L[m] = x at *
        generalize L[m + 1] = y at *
        obtain ⟨a_s, a_p, a_n, ⟨a_v0, a_l0⟩, ⟨a_v1, a_l1⟩, ⟨a_v2, a_l2⟩, ⟨a_v3, a_l3⟩⟩ := x
        obtain ⟨b_s, b_p, b_n, ⟨b_v0, b_l0⟩, ⟨b_v1, b_l1⟩, ⟨b_v2, b_l2⟩, ⟨b_v3, b_l3⟩⟩ := y
        obtain ⟨a_c0, a_c1, a_c2, a_c3, a_c4, a_c5, a_c6, a_c7, a_c8, a_c9, a_c10⟩ := hx.all
        obtain ⟨b_c0, b_c1, b_c2, b_c3, b_c4, b_c5, b_c6, b_c7, b_c8, b_c9, b_c10⟩ := hy.all
        have HCM := Lib.hid (fun W => compare_any a_s a_p a_n a_v0 a_v1 a_v2 a_v3 a_l0 a_l1 a_l2 a_l3 b_s b_p b_n b_v0 b_v1 b_v2 b_v3 b_l0 b_l1 b_l2 b_l3 W lx ly)
        obtain ⟨C, hC⟩ : ∃ C, Hid (C = cmpA ((a_s, a_p, a_n, (a_v0, a_l0), (a_v1, a_l1), (a_v2, a_l2), (a_v3, a_l3)) : Atm) ((b_s, b_p, b_n, (b_v0, b_l0), (b_v1, b_l1), (b_v2, b_l2), (b_v3, b_l3)) : Atm)) := ⟨_, rfl⟩
        rw [← hC.out] at HCM hst2
        have hg0 : decide ((0 : Int) < (m : Int) + 1) = true := decide_eq_true (by omega)
        have hg1 : IntKind.i64.wrap ((m : Int) + 1 - 1) = (m : Int) := by rw [IntWalk.i64_in _ (by omega)]; omega
        have hg5 : IntKind.i64.wrap (m : Int) = (m : Int) := IntWalk.i64_in _ (by omega)
        have hg6 : (0 : Int) ≤ (m : Int) := by omega
        have hg2 : (m : Int) < (L.length : Int) := by omega
        have hg3 : (m : Int) + 1 < (L.length : Int) := by omega
        have hg4 : (0 : Int) ≤ (m : Int) + 1 := by omega
        clear hC hx hy lx ly
        cases hz : decide (0 ≤ C)
        · have hnx : Hid (R = isF (L.drop (m + 1 + 1 - 1))) := by
            show _ = _
            rw [hst2.out, decide_eq_true (by simp at hz; omega), Bool.true_and]; rfl
          go_wp2_with fail
          go_region_held3 (fun w' => (w'.cell? ⟨b, o + m * 11, none⟩ = some (.string ⟨a_s.toArray⟩) ∧ w'.cell? ⟨b, o + m * 11 + 1, none⟩ = some (.string ⟨a_p.toArray⟩) ∧ w'.cell? ⟨b, o + m * 11 + 2, none⟩ = some (.int .i64 a_n) ∧ w'.cell? ⟨b, o + m * 11 + 3, none⟩ = some (.bool a_v0) ∧ w'.cell? ⟨b, o + m * 11 + 4, none⟩ = some (.string ⟨a_l0.toArray⟩) ∧ w'.cell? ⟨b, o + m * 11 + 5, none⟩ = some (.bool a_v1) ∧ w'.cell? ⟨b, o + m * 11 + 6, none⟩ = some (.string ⟨a_l1.toArray⟩) ∧ w'.cell? ⟨b, o + m * 11 + 7, none⟩ = some (.bool a_v2) ∧ w'.cell? ⟨b, o + m * 11 + 8, none⟩ = some (.string ⟨a_l2.toArray⟩) ∧ w'.cell? ⟨b, o + m * 11 + 9, none⟩ = some (.bool a_v3) ∧ w'.cell? ⟨b, o + m * 11 + 10, none⟩ = some (.string ⟨a_l3.toArray⟩)) ∧ (w'.cell? ⟨b, o + (m + 1) * 11, none⟩ = some (.string ⟨b_s.toArray⟩) ∧ w'.cell? ⟨b, o + (m + 1) * 11 + 1, none⟩ = some (.string ⟨b_p.toArray⟩) ∧ w'.cell? ⟨b, o + (m + 1) * 11 + 2, none⟩ = some (.int .i64 b_n) ∧ w'.cell? ⟨b, o + (m + 1) * 11 + 3, none⟩ = some (.bool b_v0) ∧ w'.cell? ⟨b, o + (m + 1) * 11 + 4, none⟩ = some (.string ⟨b_l0.toArray⟩) ∧ w'.cell? ⟨b, o + (m + 1) * 11 + 5, none⟩ = some (.bool b_v1) ∧ w'.cell? ⟨b, o + (m + 1) * 11 + 6, none⟩ = some (.string ⟨b_l1.toArray⟩) ∧ w'.cell? ⟨b, o + (m + 1) * 11 + 7, none⟩ = some (.bool b_v2) ∧ w'.cell? ⟨b, o + (m + 1) * 11 + 8, none⟩ = some (.string ⟨b_l2.toArray⟩) ∧ w'.cell? ⟨b, o + (m + 1) * 11 + 9, none⟩ = some (.bool b_v3) ∧ w'.cell? ⟨b, o + (m + 1) * 11 + 10, none⟩ = some (.string ⟨b_l3.toArray⟩)) ∧ Since w w')
            (first | (refine ⟨⟨?_, ?_, ?_, ?_, ?_, ?_, ?_, ?_, ?_, ?_, ?_⟩, ⟨?_, ?_, ?_, ?_, ?_, ?_, ?_, ?_, ?_, ?_, ?_⟩, ?_⟩ <;> first | assumption | (refine Since.drew ?_; assumption)) | (go_split_ands; refine ⟨⟨?_, ?_, ?_, ?_, ?_, ?_, ?_, ?_, ?_, ?_, ?_⟩, ⟨?_, ?_, ?_, ?_, ?_, ?_, ?_, ?_, ?_, ?_, ?_⟩, ?_⟩ <;> first | (refine Since.cell hb ?_; assumption) | (refine Since.trans ?_ hb; assumption) | assumption))
            (first | (go_at_call 71; ((with_reducible refine (HCM.out _).mono ?_); rintro e w9 ⟨rfl, hb⟩)))
          go_split_ands
          go_wp2_with fail
          go_roundw
          case rel => exact ⟨m + 1 + 1, by omega, by go_num, by assumption, hnx.out⟩
          case measure => simp [intOf]; omega
        · have hnx : Hid (R = false) := by
            show _ = _
            rw [hst2.out, decide_eq_false (by simp at hz; omega), Bool.false_and]
          go_wp2_with fail
          go_region_held3 (fun w' => (w'.cell? ⟨b, o + m * 11, none⟩ = some (.string ⟨a_s.toArray⟩) ∧ w'.cell? ⟨b, o + m * 11 + 1, none⟩ = some (.string ⟨a_p.toArray⟩) ∧ w'.cell? ⟨b, o + m * 11 + 2, none⟩ = some (.int .i64 a_n) ∧ w'.cell? ⟨b, o + m * 11 + 3, none⟩ = some (.bool a_v0) ∧ w'.cell? ⟨b, o + m * 11 + 4, none⟩ = some (.string ⟨a_l0.toArray⟩) ∧ w'.cell? ⟨b, o + m * 11 + 5, none⟩ = some (.bool a_v1) ∧ w'.cell? ⟨b, o + m * 11 + 6, none⟩ = some (.string ⟨a_l1.toArray⟩) ∧ w'.cell? ⟨b, o + m * 11 + 7, none⟩ = some (.bool a_v2) ∧ w'.cell? ⟨b, o + m * 11 + 8, none⟩ = some (.string ⟨a_l2.toArray⟩) ∧ w'.cell? ⟨b, o + m * 11 + 9, none⟩ = some (.bool a_v3) ∧ w'.cell? ⟨b, o + m * 11 + 10, none⟩ = some (.string ⟨a_l3.toArray⟩)) ∧ (w'.cell? ⟨b, o + (m + 1) * 11, none⟩ = some (.string ⟨b_s.toArray⟩) ∧ w'.cell? ⟨b, o + (m + 1) * 11 + 1, none⟩ = some (.string ⟨b_p.toArray⟩) ∧ w'.cell? ⟨b, o + (m + 1) * 11 + 2, none⟩ = some (.int .i64 b_n) ∧ w'.cell? ⟨b, o + (m + 1) * 11 + 3, none⟩ = some (.bool b_v0) ∧ w'.cell? ⟨b, o + (m + 1) * 11 + 4, none⟩ = some (.string ⟨b_l0.toArray⟩) ∧ w'.cell? ⟨b, o + (m + 1) * 11 + 5, none⟩ = some (.bool b_v1) ∧ w'.cell? ⟨b, o + (m + 1) * 11 + 6, none⟩ = some (.string ⟨b_l1.toArray⟩) ∧ w'.cell? ⟨b, o + (m + 1) * 11 + 7, none⟩ = some (.bool b_v2) ∧ w'.cell? ⟨b, o + (m + 1) * 11 + 8, none⟩ = some (.string ⟨b_l2.toArray⟩) ∧ w'.cell? ⟨b, o + (m + 1) * 11 + 9, none⟩ = some (.bool b_v3) ∧ w'.cell? ⟨b, o + (m + 1) * 11 + 10, none⟩ = some (.string ⟨b_l3.toArray⟩)) ∧ Since w w')
            (first | (refine ⟨⟨?_, ?_, ?_, ?_, ?_, ?_, ?_, ?_, ?_, ?_, ?_⟩, ⟨?_, ?_, ?_, ?_, ?_, ?_, ?_, ?_, ?_, ?_, ?_⟩, ?_⟩ <;> first | assumption | (refine Since.drew ?_; assumption)) | (go_split_ands; refine ⟨⟨?_, ?_, ?_, ?_, ?_, ?_, ?_, ?_, ?_, ?_, ?_⟩, ⟨?_, ?_, ?_, ?_, ?_, ?_, ?_, ?_, ?_, ?_, ?_⟩, ?_⟩ <;> first | (refine Since.cell hb ?_; assumption) | (refine Since.trans ?_ hb; assumption) | assumption))
            (first | (go_at_call 71; ((with_reducible refine (HCM.out _).mono ?_); rintro e w9 ⟨rfl, hb⟩)))
          go_split_ands
          go_wp2_with fail
          go_ret
          exact ⟨ret_bool hnx.out.symm, by assumption⟩
    · have hnx : Hid (R = true) := by
        show _ = _
        rw [hres.out]
        exact isF_short (by rw [List.length_drop]; omega)
      clear hres
      go_wp2_with fail
      go_ret
      exact ⟨ret_bool hnx.out.symm, hS⟩
end Go.Proofs.YtkdeokgkjmboeaaGreatDoor
