/- Reference 16: ranged, one, May. -/
import Derived.Test.YtdlnmkdbjgbimaaGreatDoorCkL
import Derived.Test.YtdlnmkdbjgbimaaGreatDoorRefFact
namespace Go.Proofs.YtdlnmkdbjgbimaaGreatDoor
open Go.RowKit

theorem trow_own {w : World} {base : Nat} {e : TypeId} {v : Value} {L : List Txt} (h : w.ownsRow base e 1 v L.length (L.map strV)) : TRow w v L := by
  rcases row_of_own h with ⟨rfl, h2, _⟩ | ⟨b, o, c, rfl, hn, hc⟩
  · have hL := List.eq_nil_of_length_eq_zero h2
    subst hL
    exact KRow.nil _ _
  · refine ⟨_, _, rfl, hn, fun _ => ⟨b, o, rfl, fun k hk => ?_⟩⟩
    have := hc k (by simpa using hk)
    unfold TxtAt
    rw [Nat.mul_one, this, List.getElem_map]
theorem contains_flat (L : List Atm) (f : Atm → List Txt) (v : Txt) : (L.flatMap f).contains v = L.any fun a => (f a).contains v := by
  induction L with
  | nil => rfl
  | cons a r ih => rw [List.flatMap_cons, List.any_cons, ← ih]; simp only [List.contains_eq_mem, List.mem_append, Bool.decide_or]
def rangedB (a : Atm) (B : List Atm) : Bool := (namesA a true).all fun v => B.any fun b => (namesA b true).contains v
set_option maxHeartbeats 8000000 in
set_option maxRecDepth 100000 in
theorem r16ranged_any (a_s a_p : List UInt8) (a_n : Int) (a_v0 a_v1 a_v2 a_v3 : Bool) (a_l0 a_l1 a_l2 a_l3 : List UInt8) (va : Option Addr) (cb : Nat) (B : List Atm) (w : World) (hv : ARow w (.slice va B.length cb) B) (hm : B.length ≤ 100000) :
    Calls Tryz.prog 54 #[.agg #[.string ⟨a_s.toArray⟩, .string ⟨a_p.toArray⟩, .int .i64 a_n, .bool a_v0, .string ⟨a_l0.toArray⟩, .bool a_v1, .string ⟨a_l1.toArray⟩, .bool a_v2, .string ⟨a_l2.toArray⟩, .bool a_v3, .string ⟨a_l3.toArray⟩, .slice va B.length cb]] w fun e w' => e = .returned (.bool (rangedB ((a_s, a_p, a_n, (a_v0, a_l0), (a_v1, a_l1), (a_v2, a_l2), (a_v3, a_l3)) : Atm) B)) ∧ Since w w' := by
  have hC : Cel (w.alloc (.cells #[.string ⟨a_s.toArray⟩, .string ⟨a_p.toArray⟩, .int .i64 a_n, .bool a_v0, .string ⟨a_l0.toArray⟩, .bool a_v1, .string ⟨a_l1.toArray⟩, .bool a_v2, .string ⟨a_l2.toArray⟩, .bool a_v3, .string ⟨a_l3.toArray⟩, .slice va B.length cb] 47)) w.heap.size #[.string ⟨a_s.toArray⟩, .string ⟨a_p.toArray⟩, .int .i64 a_n, .bool a_v0, .string ⟨a_l0.toArray⟩, .bool a_v1, .string ⟨a_l1.toArray⟩, .bool a_v2, .string ⟨a_l2.toArray⟩, .bool a_v3, .string ⟨a_l3.toArray⟩, .slice va B.length cb] 47 := heap_alloc_new w _
  have hS0 : Since w (w.alloc (.cells #[.string ⟨a_s.toArray⟩, .string ⟨a_p.toArray⟩, .int .i64 a_n, .bool a_v0, .string ⟨a_l0.toArray⟩, .bool a_v1, .string ⟨a_l1.toArray⟩, .bool a_v2, .string ⟨a_l2.toArray⟩, .bool a_v3, .string ⟨a_l3.toArray⟩, .slice va B.length cb] 47)) := (Since.refl w).alloc _
  have HV := Lib.hid hv
  have HVR := Lib.hid (fun W => rvars_any a_s a_p a_n a_v0 a_v1 a_v2 a_v3 a_l0 a_l1 a_l2 a_l3 W)
  obtain ⟨R, hR⟩ : ∃ R, Hid (R = rangedB ((a_s, a_p, a_n, (a_v0, a_l0), (a_v1, a_l1), (a_v2, a_l2), (a_v3, a_l3)) : Atm) B) := ⟨_, rfl⟩
  rw [← hR.out]
  obtain ⟨H, hH⟩ : ∃ n, Hid (n = namesA ((a_s, a_p, a_n, (a_v0, a_l0), (a_v1, a_l1), (a_v2, a_l2), (a_v3, a_l3)) : Atm) true) := ⟨_, rfl⟩
  have hHL := names_few ((a_s, a_p, a_n, (a_v0, a_l0), (a_v1, a_l1), (a_v2, a_l2), (a_v3, a_l3)) : Atm)
  rw [← hH.out] at HVR hHL
  have hR0 : Hid (R = H.all fun v => B.any fun b => (namesA b true).contains v) := by show _ = _; rw [hR.out, hH.out]; rfl
  have c0 : (w.alloc (.cells #[.string ⟨a_s.toArray⟩, .string ⟨a_p.toArray⟩, .int .i64 a_n, .bool a_v0, .string ⟨a_l0.toArray⟩, .bool a_v1, .string ⟨a_l1.toArray⟩, .bool a_v2, .string ⟨a_l2.toArray⟩, .bool a_v3, .string ⟨a_l3.toArray⟩, .slice va B.length cb] 47)).cell? ⟨w.heap.size, 0, none⟩ = some (.string ⟨a_s.toArray⟩) := hC.cell 0
  have c1 : (w.alloc (.cells #[.string ⟨a_s.toArray⟩, .string ⟨a_p.toArray⟩, .int .i64 a_n, .bool a_v0, .string ⟨a_l0.toArray⟩, .bool a_v1, .string ⟨a_l1.toArray⟩, .bool a_v2, .string ⟨a_l2.toArray⟩, .bool a_v3, .string ⟨a_l3.toArray⟩, .slice va B.length cb] 47)).cell? ⟨w.heap.size, 1, none⟩ = some (.string ⟨a_p.toArray⟩) := hC.cell 1
  have c2 : (w.alloc (.cells #[.string ⟨a_s.toArray⟩, .string ⟨a_p.toArray⟩, .int .i64 a_n, .bool a_v0, .string ⟨a_l0.toArray⟩, .bool a_v1, .string ⟨a_l1.toArray⟩, .bool a_v2, .string ⟨a_l2.toArray⟩, .bool a_v3, .string ⟨a_l3.toArray⟩, .slice va B.length cb] 47)).cell? ⟨w.heap.size, 2, none⟩ = some (.int .i64 a_n) := hC.cell 2
  have c3 : (w.alloc (.cells #[.string ⟨a_s.toArray⟩, .string ⟨a_p.toArray⟩, .int .i64 a_n, .bool a_v0, .string ⟨a_l0.toArray⟩, .bool a_v1, .string ⟨a_l1.toArray⟩, .bool a_v2, .string ⟨a_l2.toArray⟩, .bool a_v3, .string ⟨a_l3.toArray⟩, .slice va B.length cb] 47)).cell? ⟨w.heap.size, 3, none⟩ = some (.bool a_v0) := hC.cell 3
  have c4 : (w.alloc (.cells #[.string ⟨a_s.toArray⟩, .string ⟨a_p.toArray⟩, .int .i64 a_n, .bool a_v0, .string ⟨a_l0.toArray⟩, .bool a_v1, .string ⟨a_l1.toArray⟩, .bool a_v2, .string ⟨a_l2.toArray⟩, .bool a_v3, .string ⟨a_l3.toArray⟩, .slice va B.length cb] 47)).cell? ⟨w.heap.size, 4, none⟩ = some (.string ⟨a_l0.toArray⟩) := hC.cell 4
  have c5 : (w.alloc (.cells #[.string ⟨a_s.toArray⟩, .string ⟨a_p.toArray⟩, .int .i64 a_n, .bool a_v0, .string ⟨a_l0.toArray⟩, .bool a_v1, .string ⟨a_l1.toArray⟩, .bool a_v2, .string ⟨a_l2.toArray⟩, .bool a_v3, .string ⟨a_l3.toArray⟩, .slice va B.length cb] 47)).cell? ⟨w.heap.size, 5, none⟩ = some (.bool a_v1) := hC.cell 5
  have c6 : (w.alloc (.cells #[.string ⟨a_s.toArray⟩, .string ⟨a_p.toArray⟩, .int .i64 a_n, .bool a_v0, .string ⟨a_l0.toArray⟩, .bool a_v1, .string ⟨a_l1.toArray⟩, .bool a_v2, .string ⟨a_l2.toArray⟩, .bool a_v3, .string ⟨a_l3.toArray⟩, .slice va B.length cb] 47)).cell? ⟨w.heap.size, 6, none⟩ = some (.string ⟨a_l1.toArray⟩) := hC.cell 6
  have c7 : (w.alloc (.cells #[.string ⟨a_s.toArray⟩, .string ⟨a_p.toArray⟩, .int .i64 a_n, .bool a_v0, .string ⟨a_l0.toArray⟩, .bool a_v1, .string ⟨a_l1.toArray⟩, .bool a_v2, .string ⟨a_l2.toArray⟩, .bool a_v3, .string ⟨a_l3.toArray⟩, .slice va B.length cb] 47)).cell? ⟨w.heap.size, 7, none⟩ = some (.bool a_v2) := hC.cell 7
  have c8 : (w.alloc (.cells #[.string ⟨a_s.toArray⟩, .string ⟨a_p.toArray⟩, .int .i64 a_n, .bool a_v0, .string ⟨a_l0.toArray⟩, .bool a_v1, .string ⟨a_l1.toArray⟩, .bool a_v2, .string ⟨a_l2.toArray⟩, .bool a_v3, .string ⟨a_l3.toArray⟩, .slice va B.length cb] 47)).cell? ⟨w.heap.size, 8, none⟩ = some (.string ⟨a_l2.toArray⟩) := hC.cell 8
  have c9 : (w.alloc (.cells #[.string ⟨a_s.toArray⟩, .string ⟨a_p.toArray⟩, .int .i64 a_n, .bool a_v0, .string ⟨a_l0.toArray⟩, .bool a_v1, .string ⟨a_l1.toArray⟩, .bool a_v2, .string ⟨a_l2.toArray⟩, .bool a_v3, .string ⟨a_l3.toArray⟩, .slice va B.length cb] 47)).cell? ⟨w.heap.size, 9, none⟩ = some (.bool a_v3) := hC.cell 9
  have c10 : (w.alloc (.cells #[.string ⟨a_s.toArray⟩, .string ⟨a_p.toArray⟩, .int .i64 a_n, .bool a_v0, .string ⟨a_l0.toArray⟩, .bool a_v1, .string ⟨a_l1.toArray⟩, .bool a_v2, .string ⟨a_l2.toArray⟩, .bool a_v3, .string ⟨a_l3.toArray⟩, .slice va B.length cb] 47)).cell? ⟨w.heap.size, 10, none⟩ = some (.string ⟨a_l3.toArray⟩) := hC.cell 10
  have c11 : (w.alloc (.cells #[.string ⟨a_s.toArray⟩, .string ⟨a_p.toArray⟩, .int .i64 a_n, .bool a_v0, .string ⟨a_l0.toArray⟩, .bool a_v1, .string ⟨a_l1.toArray⟩, .bool a_v2, .string ⟨a_l2.toArray⟩, .bool a_v3, .string ⟨a_l3.toArray⟩, .slice va B.length cb] 47)).cell? ⟨w.heap.size, 11, none⟩ = some (.slice va B.length cb) := hC.cell 11
  clear hR hH hv
  go_enter Tryz.func54, Tryz.ntmps54
  go_upto_region 1 with (fail)
  generalize hw1 : w.alloc (.cells #[.string ⟨a_s.toArray⟩, .string ⟨a_p.toArray⟩, .int .i64 a_n, .bool a_v0, .string ⟨a_l0.toArray⟩, .bool a_v1, .string ⟨a_l1.toArray⟩, .bool a_v2, .string ⟨a_l2.toArray⟩, .bool a_v3, .string ⟨a_l3.toArray⟩, .slice va B.length cb] 47) = w1 at *
  clear hw1
  go_wp2_with fail
  refine (HVR.out _).mono ?_
  rintro e w2 ⟨v1, rfl, hown, hb⟩
  have hrow := trow_own hown
  obtain ⟨ah, ch, rfl⟩ := hrow.slice
  have HROW := Lib.hid hrow
  have c11' := hb.cell c11
  have hS2 := hS0.trans hb
  clear c0 c1 c2 c3 c4 c5 c6 c7 c8 c9 c10 c11 HVR hown hrow hb hC hS0
  go_wp2_with fail
  go_loopw [4] (fun i wr => ∃ k : Nat, k ≤ H.length ∧ i = .int .i64 (k : Int) ∧ Since w2 wr ∧ Hid (R = (H.drop k).all fun v => B.any fun b => (namesA b true).contains v)) (fun i _ => H.length - (intOf i).toNat)
  case atStart => exact ⟨0, by omega, rfl, Since.refl _, hR0⟩
  case round =>
    clear hR0
    obtain ⟨i, hi, rfl, hS, hres⟩ := hrel
    by_cases hil : i < H.length
    · have hii : (i : Int) < (H.length : Int) := by omega
      rw [List.drop_eq_getElem_cons hil, List.all_cons] at hres
      obtain ⟨y, hy⟩ : ∃ y, Hid (y = H[i]) := ⟨H[i], rfl⟩
      obtain ⟨TOT, hTOT⟩ : ∃ t, Hid (t = B.any fun b => (namesA b true).contains y) := ⟨_, rfl⟩
      rw [← hy.out, ← hTOT.out] at hres
      have HRES := Lib.hid hres
      have hT0 : Hid (TOT = (false || (B.drop 0).any fun b => (namesA b true).contains y)) := hTOT
      clear hres hTOT
      have c11w := hS.cell c11'
      go_wp2_with fail
      go_loopw [5, 6] (fun is k wr => ∃ (j : Nat) (b : Bool), j ≤ B.length ∧ k = .int .i64 (j : Int) ∧ is = .bool b ∧ Since w2 wr ∧ Hid (TOT = (b || (B.drop j).any fun b => (namesA b true).contains y))) (fun _ k _ => B.length - (intOf k).toNat)
      case atStart => exact ⟨0, false, by omega, rfl, rfl, hS, hT0⟩
      case round =>
        clear hT0 hS c11w
        obtain ⟨j, b, hj, rfl, rfl, hS, hres⟩ := hrel
        have c11w := hS.cell c11'
        cases b
        · by_cases hjl : j < B.length
          · have hji : (j : Int) < (B.length : Int) := by omega
            have hSw := hS2.trans hS
            rw [List.drop_eq_getElem_cons hjl, List.any_cons, Bool.false_or] at hres
            obtain ⟨bb, ob, rfl, hcc, hat⟩ := (anext HV.out hSw).get (by omega)
            have e1 := hat j hjl
            obtain ⟨x, hx⟩ : ∃ x, Hid (x = B[j]) := ⟨B[j], rfl⟩
            rw [← hx.out] at e1 hres
            obtain ⟨x_s, x_p, x_n, ⟨x_v0, x_l0⟩, ⟨x_v1, x_l1⟩, ⟨x_v2, x_l2⟩, ⟨x_v3, x_l3⟩⟩ := x
            obtain ⟨x_c0, x_c1, x_c2, x_c3, x_c4, x_c5, x_c6, x_c7, x_c8, x_c9, x_c10⟩ := e1.all
            have HVX := Lib.hid (fun W => rvars_any x_s x_p x_n x_v0 x_v1 x_v2 x_v3 x_l0 x_l1 x_l2 x_l3 W)
            have hNL := names_few ((x_s, x_p, x_n, (x_v0, x_l0), (x_v1, x_l1), (x_v2, x_l2), (x_v3, x_l3)) : Atm)
            obtain ⟨VX, hVX⟩ : ∃ n, Hid (n = namesA ((x_s, x_p, x_n, (x_v0, x_l0), (x_v1, x_l1), (x_v2, x_l2), (x_v3, x_l3)) : Atm) true) := ⟨_, rfl⟩
            rw [← hVX.out] at HVX hNL hres
            have HRES2 := Lib.hid hres
            clear hres hat e1 hx hVX hcc
            go_wp2_with fail
            refine (HVX.out _).mono ?_
            rintro e w5 ⟨v2, rfl, hown, hb⟩
            have hrow := trow_own hown
            obtain ⟨ax, cx, rfl⟩ := hrow.slice
            have HROW2 := Lib.hid hrow
            have hS5 := hS.trans hb
            clear hown hrow hb x_c0 x_c1 x_c2 x_c3 x_c4 x_c5 x_c6 x_c7 x_c8 x_c9 x_c10 HVX hS c11w
            obtain ⟨X, hX⟩ : ∃ X, Hid (X = VX.contains y) := ⟨_, rfl⟩
            have hX0 : Hid (X = (false || (VX.drop 0).contains y)) := hX
            have HRES3 : Hid (TOT = (X || (B.drop (j + 1)).any fun b => (namesA b true).contains y)) := by show _ = _; rw [HRES2.out, hX.out]
            clear HRES2 hX
            go_wp2_with fail
            go_loopw [5, 8] (fun is n wr => ∃ (m : Nat) (b : Bool), m ≤ VX.length ∧ n = .int .i64 (m : Int) ∧ is = .bool b ∧ Since w5 wr ∧ Hid (X = (b || (VX.drop m).contains y))) (fun _ n _ => VX.length - (intOf n).toNat)
            case atStart => exact ⟨0, false, by omega, rfl, rfl, Since.refl _, hX0⟩
            case round =>
              clear hX0
              obtain ⟨m, b, hm, rfl, rfl, hS6, hres⟩ := hrel
              have hS := hS5.trans hS6
              by_cases hml : m < VX.length
              · have hmi : (m : Int) < (VX.length : Int) := by omega
                obtain ⟨bl, ol, rfl, hc1, ha1⟩ := (tnext HROW2.out hS6).get (by omega)
                obtain ⟨bh, oh, rfl, hc2, ha2⟩ := (tnext HROW.out hS).get (by omega)
                have d1 : wr.cell? ⟨bl, ol + m * 1, none⟩ = some (strV VX[m]) := ha1 m hml
                have d2 : wr.cell? ⟨bh, oh + i * 1, none⟩ = some (strV H[i]) := ha2 i hil
                rw [List.drop_eq_getElem_cons hml, List.contains_cons] at hres
                rw [← hy.out] at d2
                obtain ⟨z, hz⟩ : ∃ z, Hid (z = VX[m]) := ⟨VX[m], rfl⟩
                rw [← hz.out] at d1 hres
                rw [Nat.mul_one] at d1 d2
                have hl1 := At.one d1
                have hl2 := At.one d2
                have HR4 := Lib.hid hres
                clear hres ha1 ha2 d1 d2 hc1 hc2 hz
                go_upto_region 13 with (fail)
                cases b
                case false =>
                  replace hS6 := hS6.trans ((Since.refl wr).drew)
                  replace hl1 := hl1.next ((Since.refl wr).drew)
                  replace hl2 := hl2.next ((Since.refl wr).drew)
                  refine hx_begin (S := fun W => (Since w5 W) ∧ (At W bl (ol + m) #[.string ⟨z.toArray⟩]) ∧ (At W bh (oh + i) #[.string ⟨y.toArray⟩])) (by kernel_rfl) ⟨hS6, hl1, hl2⟩ (by kernel_rfl) (fun _ _ _ _ _ h => h) (fun hns hQ => ?_)
                  refine hx_take (i := 0) (oi := _) (v := .bool false) rfl rfl hns (by kernel_rfl) (by kernel_rfl) hQ (by kernel_rfl) (fun _ _ => by kernel_rfl) ⟨hS6, hl1, hl2⟩ ?_
                  refine hx_take (i := 1) (oi := _) (v := .bool false) rfl rfl hns (by kernel_rfl) (by kernel_rfl) hQ (by kernel_rfl) (fun _ _ => by kernel_rfl) ⟨hS6, hl1, hl2⟩ ?_
                  refine hx_take (i := 2) (oi := _) (v := .slice (some ⟨bl, ol, none⟩) VX.length cx) rfl rfl hns (by kernel_rfl) (by kernel_rfl) hQ (by kernel_rfl) (fun _ _ => by kernel_rfl) ⟨hS6, hl1, hl2⟩ ?_
                  refine hx_take (i := 3) (oi := _) (v := .int .i64 (m : Int)) rfl rfl hns (by kernel_rfl) (by kernel_rfl) hQ (by kernel_rfl) (fun _ _ => by kernel_rfl) ⟨hS6, hl1, hl2⟩ ?_
                  refine hx_take (i := 4) (oi := _) (v := .pointer (some ⟨bl, ol + m, none⟩)) rfl rfl hns (by kernel_rfl) (by kernel_rfl) hQ (by kernel_rfl) (fun W _ => ix_sl1 (n := VX.length) (c := cx) rfl (by kernel_rfl) (by kernel_rfl) (by kernel_rfl) rfl hml W) ⟨hS6, hl1, hl2⟩ ?_
                  refine hx_take (i := 5) (oi := _) (v := .string ⟨z.toArray⟩) rfl rfl hns (by kernel_rfl) (by kernel_rfl) hQ (by kernel_rfl) (fun W hW => ld_one rfl (by kernel_rfl) (by kernel_rfl) W (hW.2.1 0 _ rfl)) ⟨hS6, hl1, hl2⟩ ?_
                  refine hx_take (i := 6) (oi := _) (v := .slice (some ⟨bh, oh, none⟩) H.length ch) rfl rfl hns (by kernel_rfl) (by kernel_rfl) hQ (by kernel_rfl) (fun _ _ => by kernel_rfl) ⟨hS6, hl1, hl2⟩ ?_
                  refine hx_take (i := 7) (oi := _) (v := .int .i64 (i : Int)) rfl rfl hns (by kernel_rfl) (by kernel_rfl) hQ (by kernel_rfl) (fun _ _ => by kernel_rfl) ⟨hS6, hl1, hl2⟩ ?_
                  refine hx_take (i := 8) (oi := _) (v := .pointer (some ⟨bh, oh + i, none⟩)) rfl rfl hns (by kernel_rfl) (by kernel_rfl) hQ (by kernel_rfl) (fun W _ => ix_sl1 (n := H.length) (c := ch) rfl (by kernel_rfl) (by kernel_rfl) (by kernel_rfl) rfl hil W) ⟨hS6, hl1, hl2⟩ ?_
                  refine hx_take (i := 9) (oi := _) (v := .string ⟨y.toArray⟩) rfl rfl hns (by kernel_rfl) (by kernel_rfl) hQ (by kernel_rfl) (fun W hW => ld_one rfl (by kernel_rfl) (by kernel_rfl) W (hW.2.2 0 _ rfl)) ⟨hS6, hl1, hl2⟩ ?_
                  refine hx_take (i := 10) (oi := _) (v := .bool (z == y)) rfl rfl hns (by kernel_rfl) (by kernel_rfl) hQ (by kernel_rfl) (fun W _ => eql_txt rfl (by kernel_rfl) (by kernel_rfl) W) ⟨hS6, hl1, hl2⟩ ?_
                  refine hx_take (i := 11) (oi := _) (v := .bool (z == y)) rfl rfl hns (by kernel_rfl) (by kernel_rfl) hQ (by kernel_rfl) (fun _ _ => by kernel_rfl) ⟨hS6, hl1, hl2⟩ ?_
                  refine hx_take (i := 12) (oi := _) (v := .bool (z == y)) rfl rfl hns (by kernel_rfl) (by kernel_rfl) hQ (by kernel_rfl) (fun _ _ => by kernel_rfl) ⟨hS6, hl1, hl2⟩ ?_
                  refine wpAnyH_done (by kernel_rfl) ?_ _
                  clear hns hQ
                  simp only [List.set_cons_zero, List.set_cons_succ]
                  go_wp2_with fail
                  go_roundw
                  case rel => exact ⟨m + 1, (z == y), by omega, by go_num, rfl, hS6, by show _ = _; rw [HR4.out, Bool.false_or, Bool.beq_comm]⟩
                  case measure => simp [intOf]; omega
                case true =>
                  replace hS6 := hS6.trans ((Since.refl wr).drew)
                  replace hl1 := hl1.next ((Since.refl wr).drew)
                  replace hl2 := hl2.next ((Since.refl wr).drew)
                  refine hx_begin (S := fun W => (Since w5 W) ∧ (At W bl (ol + m) #[.string ⟨z.toArray⟩]) ∧ (At W bh (oh + i) #[.string ⟨y.toArray⟩])) (by kernel_rfl) ⟨hS6, hl1, hl2⟩ (by kernel_rfl) (fun _ _ _ _ _ h => h) (fun hns hQ => ?_)
                  refine hx_take (i := 0) (oi := _) (v := .bool true) rfl rfl hns (by kernel_rfl) (by kernel_rfl) hQ (by kernel_rfl) (fun _ _ => by kernel_rfl) ⟨hS6, hl1, hl2⟩ ?_
                  refine hx_take (i := 1) (oi := _) (v := .bool true) rfl rfl hns (by kernel_rfl) (by kernel_rfl) hQ (by kernel_rfl) (fun _ _ => by kernel_rfl) ⟨hS6, hl1, hl2⟩ ?_
                  refine hx_off (i := 2) (oi := _) rfl rfl hns (by kernel_rfl) (by kernel_rfl) hQ (by kernel_rfl) ⟨hS6, hl1, hl2⟩ ?_
                  refine hx_off (i := 3) (oi := _) rfl rfl hns (by kernel_rfl) (by kernel_rfl) hQ (by kernel_rfl) ⟨hS6, hl1, hl2⟩ ?_
                  refine hx_off (i := 4) (oi := _) rfl rfl hns (by kernel_rfl) (by kernel_rfl) hQ (by kernel_rfl) ⟨hS6, hl1, hl2⟩ ?_
                  refine hx_off (i := 5) (oi := _) rfl rfl hns (by kernel_rfl) (by kernel_rfl) hQ (by kernel_rfl) ⟨hS6, hl1, hl2⟩ ?_
                  refine hx_off (i := 6) (oi := _) rfl rfl hns (by kernel_rfl) (by kernel_rfl) hQ (by kernel_rfl) ⟨hS6, hl1, hl2⟩ ?_
                  refine hx_off (i := 7) (oi := _) rfl rfl hns (by kernel_rfl) (by kernel_rfl) hQ (by kernel_rfl) ⟨hS6, hl1, hl2⟩ ?_
                  refine hx_off (i := 8) (oi := _) rfl rfl hns (by kernel_rfl) (by kernel_rfl) hQ (by kernel_rfl) ⟨hS6, hl1, hl2⟩ ?_
                  refine hx_off (i := 9) (oi := _) rfl rfl hns (by kernel_rfl) (by kernel_rfl) hQ (by kernel_rfl) ⟨hS6, hl1, hl2⟩ ?_
                  refine hx_off (i := 10) (oi := _) rfl rfl hns (by kernel_rfl) (by kernel_rfl) hQ (by kernel_rfl) ⟨hS6, hl1, hl2⟩ ?_
                  refine hx_take (i := 11) (oi := _) (v := .bool true) rfl rfl hns (by kernel_rfl) (by kernel_rfl) hQ (by kernel_rfl) (fun _ _ => by kernel_rfl) ⟨hS6, hl1, hl2⟩ ?_
                  refine hx_take (i := 12) (oi := _) (v := .bool true) rfl rfl hns (by kernel_rfl) (by kernel_rfl) hQ (by kernel_rfl) (fun _ _ => by kernel_rfl) ⟨hS6, hl1, hl2⟩ ?_
                  refine wpAnyH_done (by kernel_rfl) ?_ _
                  clear hns hQ
                  simp only [List.set_cons_zero, List.set_cons_succ]
                  go_wp2_with fail
                  go_roundw
                  case rel => exact ⟨m + 1, true, by omega, by go_num, rfl, hS6, by show _ = _; rw [HR4.out]; rfl⟩
                  case measure => simp [intOf]; omega
              · have hmi : ¬ (m : Int) < (VX.length : Int) := by omega
                rw [List.drop_eq_nil_of_le (by omega)] at hres
                have hXb : X = b := by rw [hres.out]; simp
                rw [hXb] at HRES3
                clear hres hXb
                go_wp2_with fail
                go_roundw
                case rel => exact ⟨j + 1, b, by omega, by go_num, rfl, hS, HRES3.out⟩
                case measure => simp [intOf]; omega
          · have hji : ¬ (j : Int) < (B.length : Int) := by omega
            have hRf : R = false := by rw [HRES.out, hres.out, List.drop_eq_nil_of_le (by omega)]; rfl
            subst hRf
            clear hres
            go_wp2_with fail
            go_ret
            exact ⟨rfl, hS2.trans hS⟩
        · have hR2 : Hid (R = (H.drop (i + 1)).all fun v => B.any fun b => (namesA b true).contains v) := by show _ = _; rw [HRES.out, hres.out]; rfl
          clear hres
          by_cases hjl : (j : Int) < (B.length : Int)
          · go_wp2_with fail
            go_roundw
            case rel => exact ⟨i + 1, by omega, by go_num, hS, hR2⟩
            case measure => simp [intOf]; omega
          · go_wp2_with fail
            go_roundw
            case rel => exact ⟨i + 1, by omega, by go_num, hS, hR2⟩
            case measure => simp [intOf]; omega
    · have hii : ¬ (i : Int) < (H.length : Int) := by omega
      have hRf : R = true := by rw [hres.out, List.drop_eq_nil_of_le (by omega)]; rfl
      subst hRf
      clear hres
      go_wp2_with fail
      go_ret
      exact ⟨rfl, hS2.trans hS⟩
theorem clauseB_r (a : Atm) (B : List Atm) : clauseB (a, B) = ((checkA a == 0) && ((B.all fun x => checkA x == 0) && rangedB a B)) := by
  unfold clauseB rangedB
  simp only
  have e : ((namesA a true).all fun v => (B.flatMap fun x => namesA x true).contains v) = (namesA a true).all fun v => B.any fun b => (namesA b true).contains v := by
    congr 1
    funext v
    exact contains_flat _ _ _
  rw [e]
  cases B.all (fun x => checkA x == 0) <;> cases (namesA a true).all (fun v => B.any fun b => (namesA b true).contains v) <;> cases (checkA a == 0) <;> rfl
set_option maxHeartbeats 8000000 in
set_option maxRecDepth 100000 in
theorem r16one_any (a_s a_p : List UInt8) (a_n : Int) (a_v0 a_v1 a_v2 a_v3 : Bool) (a_l0 a_l1 a_l2 a_l3 : List UInt8) (va : Option Addr) (cb : Nat) (B : List Atm) (w : World) (hv : ARow w (.slice va B.length cb) B) (hm : B.length ≤ 100000) (hf : FitsA ((a_s, a_p, a_n, (a_v0, a_l0), (a_v1, a_l1), (a_v2, a_l2), (a_v3, a_l3)) : Atm)) (hF : ∀ x ∈ B, FitsA x) :
    Calls Tryz.prog 36 #[.agg #[.string ⟨a_s.toArray⟩, .string ⟨a_p.toArray⟩, .int .i64 a_n, .bool a_v0, .string ⟨a_l0.toArray⟩, .bool a_v1, .string ⟨a_l1.toArray⟩, .bool a_v2, .string ⟨a_l2.toArray⟩, .bool a_v3, .string ⟨a_l3.toArray⟩, .slice va B.length cb]] w fun e w' => e = .returned (.bool (clauseB (((a_s, a_p, a_n, (a_v0, a_l0), (a_v1, a_l1), (a_v2, a_l2), (a_v3, a_l3)) : Atm), B))) ∧ Since w w' := by
  have hC : Cel (w.alloc (.cells #[.string ⟨a_s.toArray⟩, .string ⟨a_p.toArray⟩, .int .i64 a_n, .bool a_v0, .string ⟨a_l0.toArray⟩, .bool a_v1, .string ⟨a_l1.toArray⟩, .bool a_v2, .string ⟨a_l2.toArray⟩, .bool a_v3, .string ⟨a_l3.toArray⟩, .slice va B.length cb] 47)) w.heap.size #[.string ⟨a_s.toArray⟩, .string ⟨a_p.toArray⟩, .int .i64 a_n, .bool a_v0, .string ⟨a_l0.toArray⟩, .bool a_v1, .string ⟨a_l1.toArray⟩, .bool a_v2, .string ⟨a_l2.toArray⟩, .bool a_v3, .string ⟨a_l3.toArray⟩, .slice va B.length cb] 47 := heap_alloc_new w _
  have hS0 : Since w (w.alloc (.cells #[.string ⟨a_s.toArray⟩, .string ⟨a_p.toArray⟩, .int .i64 a_n, .bool a_v0, .string ⟨a_l0.toArray⟩, .bool a_v1, .string ⟨a_l1.toArray⟩, .bool a_v2, .string ⟨a_l2.toArray⟩, .bool a_v3, .string ⟨a_l3.toArray⟩, .slice va B.length cb] 47)) := (Since.refl w).alloc _
  have HV := Lib.hid hv
  have HCK := Lib.hid (fun W => rcheck_any a_s a_p a_n a_v0 a_v1 a_v2 a_v3 a_l0 a_l1 a_l2 a_l3 W hf)
  have HF := Lib.hid hF
  have HRG := Lib.hid (fun W (h : Since w W) => r16ranged_any a_s a_p a_n a_v0 a_v1 a_v2 a_v3 a_l0 a_l1 a_l2 a_l3 va cb B W (anext hv h) hm)
  obtain ⟨R, hR⟩ : ∃ R, Hid (R = clauseB (((a_s, a_p, a_n, (a_v0, a_l0), (a_v1, a_l1), (a_v2, a_l2), (a_v3, a_l3)) : Atm), B)) := ⟨_, rfl⟩
  rw [← hR.out]
  obtain ⟨CK, hCK⟩ : ∃ n, Hid (n = checkA ((a_s, a_p, a_n, (a_v0, a_l0), (a_v1, a_l1), (a_v2, a_l2), (a_v3, a_l3)) : Atm)) := ⟨_, rfl⟩
  obtain ⟨RG, hRG⟩ : ∃ n, Hid (n = rangedB ((a_s, a_p, a_n, (a_v0, a_l0), (a_v1, a_l1), (a_v2, a_l2), (a_v3, a_l3)) : Atm) B) := ⟨_, rfl⟩
  rw [← hCK.out] at HCK
  rw [← hRG.out] at HRG
  have hR0 : Hid (R = ((CK == 0) && ((B.all fun x => checkA x == 0) && RG))) := by show _ = _; rw [hR.out, clauseB_r, hCK.out, hRG.out]
  have c0 : (w.alloc (.cells #[.string ⟨a_s.toArray⟩, .string ⟨a_p.toArray⟩, .int .i64 a_n, .bool a_v0, .string ⟨a_l0.toArray⟩, .bool a_v1, .string ⟨a_l1.toArray⟩, .bool a_v2, .string ⟨a_l2.toArray⟩, .bool a_v3, .string ⟨a_l3.toArray⟩, .slice va B.length cb] 47)).cell? ⟨w.heap.size, 0, none⟩ = some (.string ⟨a_s.toArray⟩) := hC.cell 0
  have c1 : (w.alloc (.cells #[.string ⟨a_s.toArray⟩, .string ⟨a_p.toArray⟩, .int .i64 a_n, .bool a_v0, .string ⟨a_l0.toArray⟩, .bool a_v1, .string ⟨a_l1.toArray⟩, .bool a_v2, .string ⟨a_l2.toArray⟩, .bool a_v3, .string ⟨a_l3.toArray⟩, .slice va B.length cb] 47)).cell? ⟨w.heap.size, 1, none⟩ = some (.string ⟨a_p.toArray⟩) := hC.cell 1
  have c2 : (w.alloc (.cells #[.string ⟨a_s.toArray⟩, .string ⟨a_p.toArray⟩, .int .i64 a_n, .bool a_v0, .string ⟨a_l0.toArray⟩, .bool a_v1, .string ⟨a_l1.toArray⟩, .bool a_v2, .string ⟨a_l2.toArray⟩, .bool a_v3, .string ⟨a_l3.toArray⟩, .slice va B.length cb] 47)).cell? ⟨w.heap.size, 2, none⟩ = some (.int .i64 a_n) := hC.cell 2
  have c3 : (w.alloc (.cells #[.string ⟨a_s.toArray⟩, .string ⟨a_p.toArray⟩, .int .i64 a_n, .bool a_v0, .string ⟨a_l0.toArray⟩, .bool a_v1, .string ⟨a_l1.toArray⟩, .bool a_v2, .string ⟨a_l2.toArray⟩, .bool a_v3, .string ⟨a_l3.toArray⟩, .slice va B.length cb] 47)).cell? ⟨w.heap.size, 3, none⟩ = some (.bool a_v0) := hC.cell 3
  have c4 : (w.alloc (.cells #[.string ⟨a_s.toArray⟩, .string ⟨a_p.toArray⟩, .int .i64 a_n, .bool a_v0, .string ⟨a_l0.toArray⟩, .bool a_v1, .string ⟨a_l1.toArray⟩, .bool a_v2, .string ⟨a_l2.toArray⟩, .bool a_v3, .string ⟨a_l3.toArray⟩, .slice va B.length cb] 47)).cell? ⟨w.heap.size, 4, none⟩ = some (.string ⟨a_l0.toArray⟩) := hC.cell 4
  have c5 : (w.alloc (.cells #[.string ⟨a_s.toArray⟩, .string ⟨a_p.toArray⟩, .int .i64 a_n, .bool a_v0, .string ⟨a_l0.toArray⟩, .bool a_v1, .string ⟨a_l1.toArray⟩, .bool a_v2, .string ⟨a_l2.toArray⟩, .bool a_v3, .string ⟨a_l3.toArray⟩, .slice va B.length cb] 47)).cell? ⟨w.heap.size, 5, none⟩ = some (.bool a_v1) := hC.cell 5
  have c6 : (w.alloc (.cells #[.string ⟨a_s.toArray⟩, .string ⟨a_p.toArray⟩, .int .i64 a_n, .bool a_v0, .string ⟨a_l0.toArray⟩, .bool a_v1, .string ⟨a_l1.toArray⟩, .bool a_v2, .string ⟨a_l2.toArray⟩, .bool a_v3, .string ⟨a_l3.toArray⟩, .slice va B.length cb] 47)).cell? ⟨w.heap.size, 6, none⟩ = some (.string ⟨a_l1.toArray⟩) := hC.cell 6
  have c7 : (w.alloc (.cells #[.string ⟨a_s.toArray⟩, .string ⟨a_p.toArray⟩, .int .i64 a_n, .bool a_v0, .string ⟨a_l0.toArray⟩, .bool a_v1, .string ⟨a_l1.toArray⟩, .bool a_v2, .string ⟨a_l2.toArray⟩, .bool a_v3, .string ⟨a_l3.toArray⟩, .slice va B.length cb] 47)).cell? ⟨w.heap.size, 7, none⟩ = some (.bool a_v2) := hC.cell 7
  have c8 : (w.alloc (.cells #[.string ⟨a_s.toArray⟩, .string ⟨a_p.toArray⟩, .int .i64 a_n, .bool a_v0, .string ⟨a_l0.toArray⟩, .bool a_v1, .string ⟨a_l1.toArray⟩, .bool a_v2, .string ⟨a_l2.toArray⟩, .bool a_v3, .string ⟨a_l3.toArray⟩, .slice va B.length cb] 47)).cell? ⟨w.heap.size, 8, none⟩ = some (.string ⟨a_l2.toArray⟩) := hC.cell 8
  have c9 : (w.alloc (.cells #[.string ⟨a_s.toArray⟩, .string ⟨a_p.toArray⟩, .int .i64 a_n, .bool a_v0, .string ⟨a_l0.toArray⟩, .bool a_v1, .string ⟨a_l1.toArray⟩, .bool a_v2, .string ⟨a_l2.toArray⟩, .bool a_v3, .string ⟨a_l3.toArray⟩, .slice va B.length cb] 47)).cell? ⟨w.heap.size, 9, none⟩ = some (.bool a_v3) := hC.cell 9
  have c10 : (w.alloc (.cells #[.string ⟨a_s.toArray⟩, .string ⟨a_p.toArray⟩, .int .i64 a_n, .bool a_v0, .string ⟨a_l0.toArray⟩, .bool a_v1, .string ⟨a_l1.toArray⟩, .bool a_v2, .string ⟨a_l2.toArray⟩, .bool a_v3, .string ⟨a_l3.toArray⟩, .slice va B.length cb] 47)).cell? ⟨w.heap.size, 10, none⟩ = some (.string ⟨a_l3.toArray⟩) := hC.cell 10
  have c11 : (w.alloc (.cells #[.string ⟨a_s.toArray⟩, .string ⟨a_p.toArray⟩, .int .i64 a_n, .bool a_v0, .string ⟨a_l0.toArray⟩, .bool a_v1, .string ⟨a_l1.toArray⟩, .bool a_v2, .string ⟨a_l2.toArray⟩, .bool a_v3, .string ⟨a_l3.toArray⟩, .slice va B.length cb] 47)).cell? ⟨w.heap.size, 11, none⟩ = some (.slice va B.length cb) := hC.cell 11
  clear hR hCK hRG hv hF
  go_enter Tryz.func36, Tryz.ntmps36
  go_upto_region 1 with (fail)
  generalize hw1 : w.alloc (.cells #[.string ⟨a_s.toArray⟩, .string ⟨a_p.toArray⟩, .int .i64 a_n, .bool a_v0, .string ⟨a_l0.toArray⟩, .bool a_v1, .string ⟨a_l1.toArray⟩, .bool a_v2, .string ⟨a_l2.toArray⟩, .bool a_v3, .string ⟨a_l3.toArray⟩, .slice va B.length cb] 47) = w1 at *
  clear hw1
  by_cases hck : CK = 0
  case neg =>
    have hRf : R = false := by rw [hR0.out]; simp [hck]
    have hq : (CK != 0) = true := by simpa using hck
    subst hRf
    clear hR0 HRG
    go_wp2_with fail
    refine (HCK.out _).mono ?_
    rintro e w2 ⟨rfl, hb⟩
    go_wp2_with fail
    go_ret
    exact ⟨rfl, hS0.trans hb⟩
  case pos =>
    subst hck
    have hR1 : Hid (R = (((B.drop 0).all fun x => checkA x == 0) && RG)) := hR0.out
    clear hR0
    go_wp2_with fail
    refine (HCK.out _).mono ?_
    rintro e w2 ⟨rfl, hb⟩
    replace hC := hC.next hb
    replace hS0 := hS0.trans hb
    have b11 : w2.cell? ⟨w.heap.size, 11, none⟩ = some (.slice va B.length cb) := hC.cell 11
    clear c0 c1 c2 c3 c4 c5 c6 c7 c8 c9 c10 c11 HCK hb
    go_wp2_with fail
    go_loopw [3] (fun i wr => ∃ k : Nat, k ≤ B.length ∧ i = .int .i64 (k : Int) ∧ Since w2 wr ∧ Hid (R = (((B.drop k).all fun x => checkA x == 0) && RG))) (fun i _ => B.length - (intOf i).toNat)
    case atStart => exact ⟨0, by omega, rfl, Since.refl _, hR1⟩
    case round =>
      clear hR1 b11
      obtain ⟨k, hk, rfl, hS, hres⟩ := hrel
      have hCw := hC.next hS
      have b11 : wr.cell? ⟨w.heap.size, 11, none⟩ = some (.slice va B.length cb) := hCw.cell 11
      by_cases hlt : k < B.length
      · have hki : (k : Int) < (B.length : Int) := by omega
        have hfx := HF.out _ (List.getElem_mem hlt)
        rw [List.drop_eq_getElem_cons hlt, List.all_cons] at hres
        obtain ⟨bb, ob, rfl, hcc, hat⟩ := (anext HV.out (hS0.trans hS)).get (by omega)
        have e1 := hat k hlt
        obtain ⟨x, hx⟩ : ∃ x, Hid (x = B[k]) := ⟨B[k], rfl⟩
        rw [← hx.out] at e1 hres hfx
        obtain ⟨x_s, x_p, x_n, ⟨x_v0, x_l0⟩, ⟨x_v1, x_l1⟩, ⟨x_v2, x_l2⟩, ⟨x_v3, x_l3⟩⟩ := x
        obtain ⟨x_c0, x_c1, x_c2, x_c3, x_c4, x_c5, x_c6, x_c7, x_c8, x_c9, x_c10⟩ := e1.all
        have HCX := Lib.hid (fun W => rcheck_any x_s x_p x_n x_v0 x_v1 x_v2 x_v3 x_l0 x_l1 x_l2 x_l3 W hfx)
        obtain ⟨CX, hCX⟩ : ∃ n, Hid (n = checkA ((x_s, x_p, x_n, (x_v0, x_l0), (x_v1, x_l1), (x_v2, x_l2), (x_v3, x_l3)) : Atm)) := ⟨_, rfl⟩
        rw [← hCX.out] at HCX hres
        have HRES := Lib.hid hres
        clear hres hat e1 hx hCX hcc hfx hCw
        by_cases hcx : CX = 0
        case neg =>
          have hRf : R = false := by rw [HRES.out]; simp [hcx]
          have hq : (CX != 0) = true := by simpa using hcx
          subst hRf
          clear HRES HRG
          go_wp2_with fail
          refine (HCX.out _).mono ?_
          rintro e w5 ⟨rfl, hb⟩
          go_wp2_with fail
          go_ret
          exact ⟨rfl, (hS0.trans hS).trans hb⟩
        case pos =>
          subst hcx
          have hr2 : Hid (R = (((B.drop (k + 1)).all fun x => checkA x == 0) && RG)) := HRES.out
          clear HRES
          go_wp2_with fail
          refine (HCX.out _).mono ?_
          rintro e w5 ⟨rfl, hb⟩
          go_wp2_with fail
          go_roundw
          case rel => exact ⟨k + 1, by omega, by go_num, hS.trans hb, hr2⟩
          case measure => simp [intOf]; omega
      · have hki : ¬ (k : Int) < (B.length : Int) := by omega
        have hRf : R = RG := by rw [hres.out, List.drop_eq_nil_of_le (by omega)]; rfl
        subst hRf
        clear hres b11
        have q0 : wr.cell? ⟨w.heap.size, 0, none⟩ = some (.string ⟨a_s.toArray⟩) := hCw.cell 0
        have q1 : wr.cell? ⟨w.heap.size, 1, none⟩ = some (.string ⟨a_p.toArray⟩) := hCw.cell 1
        have q2 : wr.cell? ⟨w.heap.size, 2, none⟩ = some (.int .i64 a_n) := hCw.cell 2
        have q3 : wr.cell? ⟨w.heap.size, 3, none⟩ = some (.bool a_v0) := hCw.cell 3
        have q4 : wr.cell? ⟨w.heap.size, 4, none⟩ = some (.string ⟨a_l0.toArray⟩) := hCw.cell 4
        have q5 : wr.cell? ⟨w.heap.size, 5, none⟩ = some (.bool a_v1) := hCw.cell 5
        have q6 : wr.cell? ⟨w.heap.size, 6, none⟩ = some (.string ⟨a_l1.toArray⟩) := hCw.cell 6
        have q7 : wr.cell? ⟨w.heap.size, 7, none⟩ = some (.bool a_v2) := hCw.cell 7
        have q8 : wr.cell? ⟨w.heap.size, 8, none⟩ = some (.string ⟨a_l2.toArray⟩) := hCw.cell 8
        have q9 : wr.cell? ⟨w.heap.size, 9, none⟩ = some (.bool a_v3) := hCw.cell 9
        have q10 : wr.cell? ⟨w.heap.size, 10, none⟩ = some (.string ⟨a_l3.toArray⟩) := hCw.cell 10
        have q11 : wr.cell? ⟨w.heap.size, 11, none⟩ = some (.slice va B.length cb) := hCw.cell 11
        go_wp2_with fail
        refine (HRG.out _ (hS0.trans hS)).mono ?_
        rintro e w5 ⟨rfl, hb⟩
        go_wp2_with fail
        go_ret
        exact ⟨rfl, (hS0.trans hS).trans hb⟩
set_option maxHeartbeats 8000000 in
set_option maxRecDepth 100000 in
theorem r16may_any (v vf : Value) (L : List Cls) (F : List Atm) (w : World) (hv : RRow w v L) (hf : ARow w vf F) (hm : L.length ≤ 100000) (hmf : F.length ≤ 100000) (hb9 : ∀ c ∈ L, c.2.length ≤ 100000) (hFL : ∀ c ∈ L, FitsC c) (hFF : ∀ a ∈ F, FitsN a) (hE : Env w) :
    Calls Tryz.prog 23 #[v, vf] w fun e w' => e = .returned (.bool (mayC L F)) ∧ Since w w' := by
  obtain ⟨lv, lc, rfl⟩ := hv.slice
  obtain ⟨fv, fc, rfl⟩ := hf.slice
  have HV := Lib.hid hv
  have HG := Lib.hid hf
  have HF := Lib.hid hFL
  have HGF := Lib.hid hFF
  have HB9 := Lib.hid hb9
  have HE := Lib.hid hE
  obtain ⟨R, hR⟩ : ∃ R, Hid (R = mayC L F) := ⟨_, rfl⟩
  have hR0 : Hid (R = ((L.drop 0).all clauseB && F.all factB)) := hR
  rw [← hR.out]
  clear hR hv hf hFL hFF hb9 hE
  go_enter Tryz.func23, Tryz.ntmps23
  go_wp2_with fail
  go_loopw [5] (fun i wr => ∃ k : Nat, k ≤ L.length ∧ i = .int .i64 (k : Int) ∧ Since w wr ∧ Hid (R = ((L.drop k).all clauseB && F.all factB))) (fun i _ => L.length - (intOf i).toNat)
  case atStart => exact ⟨0, by omega, rfl, Since.refl _, hR0⟩
  case round =>
    clear hR0
    obtain ⟨k, hk, rfl, hS, hres⟩ := hrel
    by_cases hlt : k < L.length
    · have hki : (k : Int) < (L.length : Int) := by omega
      obtain ⟨b, ob, rfl, hc, hat⟩ := (rnext HV.out hS).get (by omega)
      obtain ⟨d1, u, d2, d3⟩ := hat k hlt
      have hfx := HF.out _ (List.getElem_mem hlt)
      have hlx := HB9.out _ (List.getElem_mem hlt)
      rw [List.drop_eq_getElem_cons hlt, List.all_cons, Bool.and_assoc] at hres
      obtain ⟨x, hx⟩ : ∃ x, Hid (x = L[k]) := ⟨L[k], rfl⟩
      rw [← hx.out] at d1 d3 hfx hlx hres
      obtain ⟨⟨x_s, x_p, x_n, ⟨x_v0, x_l0⟩, ⟨x_v1, x_l1⟩, ⟨x_v2, x_l2⟩, ⟨x_v3, x_l3⟩⟩, Bx⟩ := x
      obtain ⟨ax, cx, rfl⟩ := d3.slice
      simp only at d1 d2 d3 hfx hlx
      obtain ⟨x_c0, x_c1, x_c2, x_c3, x_c4, x_c5, x_c6, x_c7, x_c8, x_c9, x_c10⟩ := d1.all
      have HKS := Lib.hid (fun W (h : Since wr W) => r16one_any x_s x_p x_n x_v0 x_v1 x_v2 x_v3 x_l0 x_l1 x_l2 x_l3 ax cx Bx W (anext d3 h) hlx hfx.1.1 (fun y hy => (hfx.2 y hy).1))
      obtain ⟨CB, hCB⟩ : ∃ B, Hid (B = clauseB (((x_s, x_p, x_n, (x_v0, x_l0), (x_v1, x_l1), (x_v2, x_l2), (x_v3, x_l3)) : Atm), Bx)) := ⟨_, rfl⟩
      rw [← hCB.out] at HKS hres
      have HRES := Lib.hid hres
      clear d1 d3 hfx hlx hat hres hx hCB hc
      cases CB
      · have hRf : R = false := HRES.out
        subst hRf
        clear HRES
        go_wp2_with fail
        refine (HKS.out _ (Since.refl _)).mono ?_
        rintro e w5 ⟨rfl, hb⟩
        go_wp2_with fail
        go_ret
        exact ⟨rfl, hS.trans hb⟩
      · have hr2 : Hid (R = ((L.drop (k + 1)).all clauseB && F.all factB)) := HRES.out
        clear HRES
        go_wp2_with fail
        refine (HKS.out _ (Since.refl _)).mono ?_
        rintro e w5 ⟨rfl, hb⟩
        go_wp2_with fail
        go_roundw
        case rel => exact ⟨k + 1, by omega, by go_num, hS.trans hb, hr2⟩
        case measure => simp [intOf]; omega
    · have hki : ¬ (k : Int) < (L.length : Int) := by omega
      have hR1 : Hid (R = (F.drop 0).all factB) := by show _ = _; rw [hres.out, List.drop_eq_nil_of_le (by omega)]; rfl
      clear hres
      go_wp2_with fail
      go_loopw [6] (fun i wr => ∃ j : Nat, j ≤ F.length ∧ i = .int .i64 (j : Int) ∧ Since w wr ∧ Hid (R = (F.drop j).all factB)) (fun i _ => F.length - (intOf i).toNat)
      case atStart => exact ⟨0, by omega, rfl, hS, hR1⟩
      case round =>
        clear hR1 hS
        obtain ⟨j, hj, rfl, hS, hres⟩ := hrel
        by_cases hlt : j < F.length
        · have hki : (j : Int) < (F.length : Int) := by omega
          have hfx := HGF.out _ (List.getElem_mem hlt)
          rw [List.drop_eq_getElem_cons hlt, List.all_cons] at hres
          obtain ⟨bb, ob, rfl, hcc, hat⟩ := (anext HG.out hS).get (by omega)
          have e1 := hat j hlt
          obtain ⟨x, hx⟩ : ∃ x, Hid (x = F[j]) := ⟨F[j], rfl⟩
          rw [← hx.out] at e1 hres hfx
          obtain ⟨x_s, x_p, x_n, ⟨x_v0, x_l0⟩, ⟨x_v1, x_l1⟩, ⟨x_v2, x_l2⟩, ⟨x_v3, x_l3⟩⟩ := x
          obtain ⟨x_c0, x_c1, x_c2, x_c3, x_c4, x_c5, x_c6, x_c7, x_c8, x_c9, x_c10⟩ := e1.all
          have HKS := Lib.hid (fun W => rfact_any x_s x_p x_n x_v0 x_v1 x_v2 x_v3 x_l0 x_l1 x_l2 x_l3 W hfx.1)
          obtain ⟨CB, hCB⟩ : ∃ B, Hid (B = factB ((x_s, x_p, x_n, (x_v0, x_l0), (x_v1, x_l1), (x_v2, x_l2), (x_v3, x_l3)) : Atm)) := ⟨_, rfl⟩
          rw [← hCB.out] at hres
          rw [show (checkA ((x_s, x_p, x_n, (x_v0, x_l0), (x_v1, x_l1), (x_v2, x_l2), (x_v3, x_l3)) : Atm) == 0 && groundA ((x_s, x_p, x_n, (x_v0, x_l0), (x_v1, x_l1), (x_v2, x_l2), (x_v3, x_l3)) : Atm)) = CB from hCB.out.symm] at HKS
          have HRES := Lib.hid hres
          clear e1 hfx hat hres hx hCB hcc
          cases CB
          · have hRf : R = false := HRES.out
            subst hRf
            clear HRES
            go_wp2_with fail
            refine (HKS.out _).mono ?_
            rintro e w5 ⟨rfl, hb⟩
            go_wp2_with fail
            go_ret
            exact ⟨rfl, hS.trans hb⟩
          · have hr2 : Hid (R = (F.drop (j + 1)).all factB) := HRES.out
            clear HRES
            go_wp2_with fail
            refine (HKS.out _).mono ?_
            rintro e w5 ⟨rfl, hb⟩
            go_wp2_with fail
            go_roundw
            case rel => exact ⟨j + 1, by omega, by go_num, hS.trans hb, hr2⟩
            case measure => simp [intOf]; omega
        · have hki : ¬ (j : Int) < (F.length : Int) := by omega
          have hRf : R = true := by rw [hres.out, List.drop_eq_nil_of_le (by omega)]; rfl
          subst hRf
          clear hres
          go_wp2_with fail
          go_ret
          exact ⟨rfl, hS⟩
end Go.Proofs.YtdlnmkdbjgbimaaGreatDoor
