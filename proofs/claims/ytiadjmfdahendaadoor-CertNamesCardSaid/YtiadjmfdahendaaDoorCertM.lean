/- cert.may: may a step be written at its place? -/
import Derived.Test.YtiadjmfdahendaaDoorCertA
namespace Go.Proofs.YtiadjmfdahendaaDoor
open Go.RowKit

def intV (c : Int) : Value := .int .i64 c
/-- A slice that reads as a list of ints. -/
def CiteRow (W : World) (v : Value) (l : List Int) : Prop :=
  ∃ a c, v = .slice a l.length c ∧ (0 < l.length → ∃ b o, a = some ⟨b, o, none⟩ ∧ l.length ≤ c ∧ ∀ j, (h : j < (l.map intV).length) → W.cell? ⟨b, o + j, none⟩ = some (l.map intV)[j])
theorem CiteRow.next {W W' : World} {v : Value} {l : List Int} (h : CiteRow W v l) (hs : Since W W') : CiteRow W' v l := by
  obtain ⟨a, c, h1, h2⟩ := h
  refine ⟨a, c, h1, fun h0 => ?_⟩
  obtain ⟨b, o, h3, h4, h5⟩ := h2 h0
  exact ⟨b, o, h3, h4, fun j hj => hs.cell (h5 j hj)⟩
theorem CiteRow.len {W : World} {v : Value} {l : List Int} (h : CiteRow W v l) : ∃ a c, v = .slice a l.length c := by
  obtain ⟨a, c, h1, _⟩ := h
  exact ⟨a, c, h1⟩
theorem CiteRow.some {W : World} {v : Value} {l : List Int} (h : CiteRow W v l) (hn : 0 < l.length) : ∃ b o c, v = .slice (some ⟨b, o, none⟩) l.length c ∧ l.length ≤ c ∧ ∀ j, (h : j < (l.map intV).length) → W.cell? ⟨b, o + j, none⟩ = some (l.map intV)[j] := by
  obtain ⟨a, c, h1, h2⟩ := h
  obtain ⟨b, o, h3, h4, h5⟩ := h2 hn
  subst h3
  exact ⟨b, o, c, h1, h4, h5⟩
set_option maxHeartbeats 1000000 in
set_option maxRecDepth 100000 in
theorem may_any (a_s a_p : List UInt8) (a_n : Int) (a_v0 a_v1 a_v2 a_v3 : Bool) (a_l0 a_l1 a_l2 a_l3 : List UInt8) (cl : Int) (sv : Value) (l : List Int) (i : Nat) (w : World) (hF : FitsA ((a_s, a_p, a_n, (a_v0, a_l0), (a_v1, a_l1), (a_v2, a_l2), (a_v3, a_l3)) : Atm)) (hE : Env w) (hr : CiteRow w sv l) (hl : l.length ≤ 1000000) :
    Calls Tryd.prog 27 #[.int .i64 i, .agg #[.string ⟨a_s.toArray⟩, .string ⟨a_p.toArray⟩, .int .i64 a_n, .bool a_v0, .string ⟨a_l0.toArray⟩, .bool a_v1, .string ⟨a_l1.toArray⟩, .bool a_v2, .string ⟨a_l2.toArray⟩, .bool a_v3, .string ⟨a_l3.toArray⟩, .int .i64 cl, sv]] w fun e w' => e = .returned (.bool (mayB i (((a_s, a_p, a_n, (a_v0, a_l0), (a_v1, a_l1), (a_v2, a_l2), (a_v3, a_l3)) : Atm), cl, l))) ∧ Since w w' := by
  obtain ⟨sa, sc, rfl⟩ := hr.len
  have HC := Lib.hid (fun W hE => check_any a_s a_p a_n a_v0 a_v1 a_v2 a_v3 a_l0 a_l1 a_l2 a_l3 W hF hE)
  have HG := Lib.hid (fun W hE => ground_any a_s a_p a_n a_v0 a_v1 a_v2 a_v3 a_l0 a_l1 a_l2 a_l3 W hF hE)
  have hS : Since w (w.alloc (.cells #[.string ⟨a_s.toArray⟩, .string ⟨a_p.toArray⟩, .int .i64 a_n, .bool a_v0, .string ⟨a_l0.toArray⟩, .bool a_v1, .string ⟨a_l1.toArray⟩, .bool a_v2, .string ⟨a_l2.toArray⟩, .bool a_v3, .string ⟨a_l3.toArray⟩, .int .i64 cl, .slice sa l.length sc] 39)) := (Since.refl _).alloc _
  have hE1 := hE.next hS
  have a_B : Box (w.alloc (.cells #[.string ⟨a_s.toArray⟩, .string ⟨a_p.toArray⟩, .int .i64 a_n, .bool a_v0, .string ⟨a_l0.toArray⟩, .bool a_v1, .string ⟨a_l1.toArray⟩, .bool a_v2, .string ⟨a_l2.toArray⟩, .bool a_v3, .string ⟨a_l3.toArray⟩, .int .i64 cl, .slice sa l.length sc] 39)) w.heap.size ((a_s, a_p, a_n, (a_v0, a_l0), (a_v1, a_l1), (a_v2, a_l2), (a_v3, a_l3)) : Atm) := by
    intro j hj
    rw [World.cell?_alloc_new]
    match j, hj with
    | 0, _ => rfl
    | 1, _ => rfl
    | 2, _ => rfl
    | 3, _ => rfl
    | 4, _ => rfl
    | 5, _ => rfl
    | 6, _ => rfl
    | 7, _ => rfl
    | 8, _ => rfl
    | 9, _ => rfl
    | 10, _ => rfl
  have k1 : (w.alloc (.cells #[.string ⟨a_s.toArray⟩, .string ⟨a_p.toArray⟩, .int .i64 a_n, .bool a_v0, .string ⟨a_l0.toArray⟩, .bool a_v1, .string ⟨a_l1.toArray⟩, .bool a_v2, .string ⟨a_l2.toArray⟩, .bool a_v3, .string ⟨a_l3.toArray⟩, .int .i64 cl, .slice sa l.length sc] 39)).cell? ⟨w.heap.size, 11, none⟩ = some (.int .i64 cl) := by rw [World.cell?_alloc_new]; rfl
  have k2 : (w.alloc (.cells #[.string ⟨a_s.toArray⟩, .string ⟨a_p.toArray⟩, .int .i64 a_n, .bool a_v0, .string ⟨a_l0.toArray⟩, .bool a_v1, .string ⟨a_l1.toArray⟩, .bool a_v2, .string ⟨a_l2.toArray⟩, .bool a_v3, .string ⟨a_l3.toArray⟩, .int .i64 cl, .slice sa l.length sc] 39)).cell? ⟨w.heap.size, 12, none⟩ = some (.slice sa l.length sc) := by rw [World.cell?_alloc_new]; rfl
  obtain ⟨a_c0, a_c1, a_c2, a_c3, a_c4, a_c5, a_c6, a_c7, a_c8, a_c9, a_c10⟩ := a_B.all
  have hMr : Hid (mayB i (((a_s, a_p, a_n, (a_v0, a_l0), (a_v1, a_l1), (a_v2, a_l2), (a_v3, a_l3)) : Atm), cl, l) = (!(checkA ((a_s, a_p, a_n, (a_v0, a_l0), (a_v1, a_l1), (a_v2, a_l2), (a_v3, a_l3)) : Atm) != 0) && (groundA ((a_s, a_p, a_n, (a_v0, a_l0), (a_v1, a_l1), (a_v2, a_l2), (a_v3, a_l3)) : Atm) && (!decide (cl < -1) && (!decide (65536 < cl) && (!decide ((16 : Int) < (l.length : Int)) && l.all (citeB i))))))) := by
    show _ = _
    rw [mayB]
    have e1 : (checkA ((a_s, a_p, a_n, (a_v0, a_l0), (a_v1, a_l1), (a_v2, a_l2), (a_v3, a_l3)) : Atm) == 0) = !(checkA ((a_s, a_p, a_n, (a_v0, a_l0), (a_v1, a_l1), (a_v2, a_l2), (a_v3, a_l3)) : Atm) != 0) := by simp [bne]
    have e2 : decide (-1 ≤ cl) = !decide (cl < -1) := by rw [Bool.eq_iff_iff]; simp
    have e3 : decide (cl ≤ 65536) = !decide (65536 < cl) := by rw [Bool.eq_iff_iff]; simp
    have e4 : decide (l.length ≤ 16) = !decide ((16 : Int) < (l.length : Int)) := by rw [Bool.eq_iff_iff]; simp; omega
    rw [e1, e2, e3, e4]
  obtain ⟨R, hR⟩ : ∃ R, Hid (R = mayB i (((a_s, a_p, a_n, (a_v0, a_l0), (a_v1, a_l1), (a_v2, a_l2), (a_v3, a_l3)) : Atm), cl, l)) := ⟨_, rfl⟩
  have hRr : Hid (R = (!(checkA ((a_s, a_p, a_n, (a_v0, a_l0), (a_v1, a_l1), (a_v2, a_l2), (a_v3, a_l3)) : Atm) != 0) && (groundA ((a_s, a_p, a_n, (a_v0, a_l0), (a_v1, a_l1), (a_v2, a_l2), (a_v3, a_l3)) : Atm) && (!decide (cl < -1) && (!decide (65536 < cl) && (!decide ((16 : Int) < (l.length : Int)) && l.all (citeB i))))))) := by show _ = _; rw [hR.out]; exact hMr.out
  rw [← hR.out]
  clear hR hMr hF hE a_B
  have HR := Lib.hid hr
  clear hr
  generalize checkA ((a_s, a_p, a_n, (a_v0, a_l0), (a_v1, a_l1), (a_v2, a_l2), (a_v3, a_l3)) : Atm) = kk at *
  cases h1 : (kk != 0) <;> cases h2 : groundA ((a_s, a_p, a_n, (a_v0, a_l0), (a_v1, a_l1), (a_v2, a_l2), (a_v3, a_l3)) : Atm) <;> cases h3 : decide (cl < -1) <;> cases h4 : decide (65536 < cl) <;> cases h5 : decide ((16 : Int) < (l.length : Int))
  case false.true.false.false.false =>
    have hRa : Hid (R = (l.drop 0).all (citeB i)) := by show _ = _; rw [hRr.out, h1, h2, h3, h4, h5]; rfl
    have h6 : l.length ≤ 16 := by simp at h5; omega
    rw [h2] at HG
    clear hRr
    go_enter Tryd.func27, Tryd.ntmps27
    go_wp2_with (first
      | (go_at_call 29; refine (HC.out _ hE1).mono ?_; rintro e w1 ⟨rfl, hb⟩; replace hE1 := hE1.next hb; replace hS := hS.trans hb; replace k1 := hb.cell k1; replace k2 := hb.cell k2; replace a_c0 := hb.cell a_c0; replace a_c1 := hb.cell a_c1; replace a_c2 := hb.cell a_c2; replace a_c3 := hb.cell a_c3; replace a_c4 := hb.cell a_c4; replace a_c5 := hb.cell a_c5; replace a_c6 := hb.cell a_c6; replace a_c7 := hb.cell a_c7; replace a_c8 := hb.cell a_c8; replace a_c9 := hb.cell a_c9; replace a_c10 := hb.cell a_c10)
      | (go_at_call 41; refine (HG.out _ hE1).mono ?_; rintro e w1 ⟨rfl, hb⟩; replace hE1 := hE1.next hb; replace hS := hS.trans hb; replace k1 := hb.cell k1; replace k2 := hb.cell k2; clear a_c0 a_c1 a_c2 a_c3 a_c4 a_c5 a_c6 a_c7 a_c8 a_c9 a_c10))
    clear h1 h2 h3 h4 h5
    go_loop [36] (fun o => ∃ k : Nat, k ≤ l.length ∧ o = .int .i64 k ∧ Hid (R = (l.drop k).all (citeB i))) (fun o => l.length - (intOf o).toNat)
    case atStart => exact ⟨0, Nat.zero_le _, rfl, hRa⟩
    case round =>
      clear hRa
      obtain ⟨k, hk, rfl, hres⟩ := hrel
      by_cases hlt : k < l.length
      · obtain ⟨b, o, c', he, _, hcells⟩ := (HR.out.next hS).some (by omega)
        cases he
        have d := hcells k (by simpa using hlt)
        simp only [List.getElem_map, intV] at d
        have hst : R = (citeB i l[k] && (l.drop (k + 1)).all (citeB i)) := by rw [hres.out, List.drop_eq_getElem_cons hlt, List.all_cons]
        have HST := Lib.hid hst
        clear hcells hst hres
        generalize l[k] = c at *
        have hcb : Hid (citeB i c = (!decide (c < 0) && !decide ((i : Int) ≤ c))) := by
          show _ = _
          rw [citeB, Bool.eq_iff_iff]; simp
        cases g1 : decide (c < 0) <;> cases g2 : decide ((i : Int) ≤ c)
        case false.false =>
          have HN : Hid (R = (l.drop (k + 1)).all (citeB i)) := by show _ = _; rw [HST.out, hcb.out, g1, g2]; rfl
          go_wp2_with fail
          go_round
          case rel => exact ⟨k + 1, by omega, by go_num, HN⟩
          case measure => simp [intOf]; omega
        all_goals
          have HN : Hid (R = false) := by show _ = _; rw [HST.out, hcb.out, g1, g2]; simp
          go_wp2_with fail
          go_ret
          exact ⟨ret_bool HN.out.symm, hS⟩
      · go_wp2_with fail
        go_ret
        refine ⟨ret_bool ?_, hS⟩
        rw [hres.out, List.drop_eq_nil_of_le (by omega)]; rfl
  all_goals
    have hRf : Hid (R = false) := by show _ = _; rw [hRr.out, h1, h2, h3, h4, h5]; simp
    rw [h2] at HG
    clear hRr HR
    go_enter Tryd.func27, Tryd.ntmps27
    go_wp2_with (first
      | (go_at_call 29; refine (HC.out _ hE1).mono ?_; rintro e w1 ⟨rfl, hb⟩; replace hE1 := hE1.next hb; replace hS := hS.trans hb; replace k1 := hb.cell k1; replace k2 := hb.cell k2; replace a_c0 := hb.cell a_c0; replace a_c1 := hb.cell a_c1; replace a_c2 := hb.cell a_c2; replace a_c3 := hb.cell a_c3; replace a_c4 := hb.cell a_c4; replace a_c5 := hb.cell a_c5; replace a_c6 := hb.cell a_c6; replace a_c7 := hb.cell a_c7; replace a_c8 := hb.cell a_c8; replace a_c9 := hb.cell a_c9; replace a_c10 := hb.cell a_c10)
      | (go_at_call 41; refine (HG.out _ hE1).mono ?_; rintro e w1 ⟨rfl, hb⟩; replace hE1 := hE1.next hb; replace hS := hS.trans hb; replace k1 := hb.cell k1; replace k2 := hb.cell k2; clear a_c0 a_c1 a_c2 a_c3 a_c4 a_c5 a_c6 a_c7 a_c8 a_c9 a_c10))
    go_ret
    exact ⟨ret_bool hRf.out.symm, hS⟩
end Go.Proofs.YtiadjmfdahendaaDoor
