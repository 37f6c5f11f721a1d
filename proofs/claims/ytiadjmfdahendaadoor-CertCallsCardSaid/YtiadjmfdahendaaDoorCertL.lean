/- The chapter's example; LightSteps. -/
import Derived.Test.YtiadjmfdahendaaDoorCertS
namespace Go.Proofs.YtiadjmfdahendaaDoor
open Go.RowKit

theorem num_300 : numL 300 = [172, 2] := by decide
theorem lives23_any (w : World) :
    Calls Tryd.prog 8 #[] w fun e w' => e = .returned (.bool true) ∧ Since w w' := by
  have h := fun W => number_any 300 W (by omega)
  rw [num_300] at h
  have H := Lib.hid h
  clear h
  go_enter Tryd.func8, Tryd.ntmps8
  go_wp2_with fail
  refine (H.out _).mono ?_
  rintro e w' ⟨rfl, hb⟩
  go_wp2_with fail
  go_ret
  exact ⟨rfl, hb⟩

def lightX (x : Stp) : Bool := lightB x.1 && !decide ((20 : Int) < (x.2.2.length : Int))
def lightSB (L : List Stp) : Bool := !decide ((40 : Int) < (L.length : Int)) && L.all lightX
theorem lightS_of {L : List Stp} (h : lightSB L = true) : LightS L := by
  simp only [lightSB, lightX, Bool.and_eq_true, Bool.not_eq_true', decide_eq_false_iff_not, List.all_eq_true] at h
  exact ⟨by omega, fun x hx => ⟨(h.2 x hx).1, by have := (h.2 x hx).2; omega⟩⟩
set_option maxHeartbeats 1000000 in
set_option maxRecDepth 100000 in
theorem lightS_any (v : Value) (L : List Stp) (w : World) (hv : StpRow w v L) :
    Calls Tryd.prog 9 #[v] w fun e w' => e = .returned (.bool (lightSB L)) ∧ Since w w' := by
  obtain ⟨a, c, rfl⟩ := hv.form
  have HV := Lib.hid hv
  clear hv
  cases h40 : decide ((40 : Int) < (L.length : Int))
  case true =>
    have hR : lightSB L = false := by rw [lightSB, h40]; rfl
    rw [hR]
    clear hR
    go_enter Tryd.func9, Tryd.ntmps9
    go_wp2_with fail
    go_ret
    exact ⟨rfl, Since.refl _⟩
  case false =>
    have hl : L.length ≤ 40 := by simp at h40; omega
    obtain ⟨R, hR⟩ : ∃ R, Hid (R = lightSB L) := ⟨_, rfl⟩
    have hR0 : Hid (R = (L.drop 0).all lightX) := by show _ = _; rw [hR.out, lightSB, h40]; rfl
    rw [← hR.out]
    clear hR
    go_enter Tryd.func9, Tryd.ntmps9
    go_wp2_with fail
    clear h40
    go_loopw [3] (fun i wr => ∃ k : Nat, k ≤ L.length ∧ i = .int .i64 k ∧ Since w wr ∧ Hid (R = (L.drop k).all lightX)) (fun i _ => L.length - (intOf i).toNat)
    case atStart => exact ⟨0, Nat.zero_le _, rfl, Since.refl _, hR0⟩
    case round =>
      clear hR0
      obtain ⟨k, hk, rfl, hS, hres⟩ := hrel
      by_cases hlt : k < L.length
      · obtain ⟨b, o, he, hat⟩ := HV.out.get (by omega)
        cases he
        have hst := (hat k hlt).next hS
        have hstep : R = (lightX L[k] && (L.drop (k + 1)).all lightX) := by rw [hres.out, List.drop_eq_getElem_cons hlt, List.all_cons]
        have HST := Lib.hid hstep
        clear hat hstep hres
        generalize L[k] = x at *
        obtain ⟨⟨a_s, a_p, a_n, ⟨a_v0, a_l0⟩, ⟨a_v1, a_l1⟩, ⟨a_v2, a_l2⟩, ⟨a_v3, a_l3⟩⟩, cl, cs⟩ := x
        obtain ⟨a_c0, a_c1, a_c2, a_c3, a_c4, a_c5, a_c6, a_c7, a_c8, a_c9, a_c10⟩ := hst.atom
        obtain ⟨_, _, sa, sc, k2, _⟩ := hst
        have k2' : wr.cell? ⟨b, o + k * 13 + 12, none⟩ = some (.slice sa cs.length sc) := k2
        clear k2
        have HLA := Lib.hid (fun W => light_any a_s a_p a_n a_v0 a_v1 a_v2 a_v3 a_l0 a_l1 a_l2 a_l3 W)
        have hx : Hid (lightX (((a_s, a_p, a_n, (a_v0, a_l0), (a_v1, a_l1), (a_v2, a_l2), (a_v3, a_l3)) : Atm), cl, cs) = (lightB ((a_s, a_p, a_n, (a_v0, a_l0), (a_v1, a_l1), (a_v2, a_l2), (a_v3, a_l3)) : Atm) && !decide ((20 : Int) < (cs.length : Int)))) := rfl
        cases g1 : lightB ((a_s, a_p, a_n, (a_v0, a_l0), (a_v1, a_l1), (a_v2, a_l2), (a_v3, a_l3)) : Atm) <;> cases g2 : decide ((20 : Int) < (cs.length : Int))
        case true.false =>
          have HN : Hid (R = (L.drop (k + 1)).all lightX) := by show _ = _; rw [HST.out, hx.out, g1, g2]; rfl
          rw [g1] at HLA
          go_wp2_with fail
          refine (HLA.out _).mono ?_
          rintro e w3 ⟨rfl, hb⟩
          replace k2' := hb.cell k2'
          go_wp2_with fail
          go_roundw
          case rel => exact ⟨k + 1, by omega, by go_num, hS.trans hb, HN⟩
          case measure => simp [intOf]; omega
        all_goals
          have HN : Hid (R = false) := by show _ = _; rw [HST.out, hx.out, g1, g2]; rfl
          rw [g1] at HLA
          go_wp2_with fail
          refine (HLA.out _).mono ?_
          rintro e w3 ⟨rfl, hb⟩
          replace k2' := hb.cell k2'
          go_wp2_with fail
          go_ret
          exact ⟨ret_bool HN.out.symm, hS.trans hb⟩
      · go_wp2_with fail
        go_ret
        refine ⟨ret_bool ?_, hS⟩
        rw [hres.out, List.drop_eq_nil_of_le (by omega)]; rfl
theorem run_cat {a b c : ByteArray} (h : a ++ b = c) (hl : a.size + b.size ≤ 1000000) (W : World) : (Op.stringOp .add a b).run Tryd.prog W = .ok (.string c) W := by
  subst h
  exact run_string_add W a b (by omega) (by omega)
end Go.Proofs.YtiadjmfdahendaaDoor
