/- CertParts returns true at every list of steps and atom, in every world in which the library's table strings.asciiSpace stands. -/
import Derived.Test.YtiadjmfdahendaaDoorCertL
namespace Go.Proofs.YtiadjmfdahendaaDoor
open Go.RowKit

/-- How long an atom's bytes are, as the law counts. -/
def sumN (L : List Tm) : Nat := (L.map nameN).sum
def partsN (a : Atm) (A : List Tm) : Nat := a.1.length + a.2.1.length + 3 + sumN A + (if 128 ≤ a.1.length then 1 else 0) + (if 128 ≤ a.2.1.length then 1 else 0)
theorem flat_sum : ∀ (A : List Tm), (∀ t ∈ A, t.2.length < 16384) → (A.flatMap nameB).length = sumN A
  | [], _ => rfl
  | t :: r, h => by
    have h1 := nameB_len (h t (by simp))
    have h2 := flat_sum r (fun x hx => h x (by simp [hx]))
    rw [List.flatMap_cons, List.length_append, h1, h2]
    simp [sumN]
theorem parts_len {a : Atm} (h1 : a.1.length ≤ 300) (h2 : a.2.1.length ≤ 300) (h3 : ∀ t ∈ argsL a, t.2.length ≤ 300) (hn : 0 ≤ a.2.2.1 ∧ a.2.2.1 ≤ 4) : (atomB a).length = partsN a ((argsL a).take (countA a)) := by
  have e1 := textB_len (s := a.1) (by omega)
  have e2 := textB_len (s := a.2.1) (by omega)
  have e3 := num_one (n := a.2.2.1.toNat) (by omega)
  have e4 := flat_sum ((argsL a).take (countA a)) (fun t ht => by have := h3 t (List.mem_of_mem_take ht); omega)
  rw [atomB, List.length_append, List.length_append, List.length_append, e1, e2, e3, e4, partsN]
  omega
theorem sumN_drop {A : List Tm} {k : Nat} (hk : k < A.length) : sumN (A.drop k) = nameN A[k] + sumN (A.drop (k + 1)) := by
  unfold sumN
  rw [List.drop_eq_getElem_cons hk, List.map_cons, List.sum_cons]
theorem sumN_le : ∀ (A : List Tm), (∀ t ∈ A, t.2.length ≤ 300) → sumN A ≤ A.length * 303
  | [], _ => by simp [sumN]
  | t :: r, h => by
    have h1 := h t (by simp)
    have h2 := sumN_le r (fun x hx => h x (by simp [hx]))
    have : nameN t ≤ 303 := by unfold nameN; split <;> omega
    simp only [sumN, List.map_cons, List.sum_cons, List.length_cons] at h2 ⊢
    omega

set_option maxHeartbeats 4000000 in
set_option maxRecDepth 100000 in
theorem parts_any (v : Value) (L : List Stp) (a_s a_p : List UInt8) (a_n : Int) (a_v0 a_v1 a_v2 a_v3 : Bool) (a_l0 a_l1 a_l2 a_l3 : List UInt8) (w : World) (hv : StpRow w v L) (hE : Env w) (hF : FitsS L) (fa : FitsA ((a_s, a_p, a_n, (a_v0, a_l0), (a_v1, a_l1), (a_v2, a_l2), (a_v3, a_l3)) : Atm)) :
    Calls Tryd.prog 3 #[v, .agg #[.string ⟨a_s.toArray⟩, .string ⟨a_p.toArray⟩, .int .i64 a_n, .bool a_v0, .string ⟨a_l0.toArray⟩, .bool a_v1, .string ⟨a_l1.toArray⟩, .bool a_v2, .string ⟨a_l2.toArray⟩, .bool a_v3, .string ⟨a_l3.toArray⟩]] w fun e w' => e = .returned (.bool true) ∧ Since w w' := by
  obtain ⟨sa0, sc0, rfl⟩ := hv.form
  have hS : Since w (w.alloc (.cells #[.string ⟨a_s.toArray⟩, .string ⟨a_p.toArray⟩, .int .i64 a_n, .bool a_v0, .string ⟨a_l0.toArray⟩, .bool a_v1, .string ⟨a_l1.toArray⟩, .bool a_v2, .string ⟨a_l2.toArray⟩, .bool a_v3, .string ⟨a_l3.toArray⟩] 27)) := (Since.refl _).alloc _
  have a_B : Box (w.alloc (.cells #[.string ⟨a_s.toArray⟩, .string ⟨a_p.toArray⟩, .int .i64 a_n, .bool a_v0, .string ⟨a_l0.toArray⟩, .bool a_v1, .string ⟨a_l1.toArray⟩, .bool a_v2, .string ⟨a_l2.toArray⟩, .bool a_v3, .string ⟨a_l3.toArray⟩] 27)) w.heap.size ((a_s, a_p, a_n, (a_v0, a_l0), (a_v1, a_l1), (a_v2, a_l2), (a_v3, a_l3)) : Atm) := box_new w ((a_s, a_p, a_n, (a_v0, a_l0), (a_v1, a_l1), (a_v2, a_l2), (a_v3, a_l3)) : Atm) _
  have HV := Lib.hid hv
  have HE := Lib.hid hE
  have HLS := Lib.hid (fun W hv => lightS_any (.slice sa0 L.length sc0) L W hv)
  have HLA := Lib.hid (fun W => light_any a_s a_p a_n a_v0 a_v1 a_v2 a_v3 a_l0 a_l1 a_l2 a_l3 W)
  clear hv hE
  cases hls : lightSB L
  · rw [hls] at HLS
    clear HLA
    go_enter Tryd.func3, Tryd.ntmps3
    go_wp2_with fail
    refine (lives23_any _).mono ?_
    rintro e w1 ⟨rfl, hb⟩
    replace hS := hS.trans hb
    clear hb
    go_wp2_with fail
    refine (HLS.out _ (HV.out.next hS)).mono ?_
    rintro e w2 ⟨rfl, hb⟩
    replace hS := hS.trans hb
    clear hb
    go_wp2_with fail
    go_ret
    exact ⟨rfl, hS⟩
  rw [hls] at HLS
  cases hla : lightB ((a_s, a_p, a_n, (a_v0, a_l0), (a_v1, a_l1), (a_v2, a_l2), (a_v3, a_l3)) : Atm)
  · rw [hla] at HLA
    go_enter Tryd.func3, Tryd.ntmps3
    obtain ⟨a_c0, a_c1, a_c2, a_c3, a_c4, a_c5, a_c6, a_c7, a_c8, a_c9, a_c10⟩ := a_B.all
    go_wp2_with fail
    refine (lives23_any _).mono ?_
    rintro e w1 ⟨rfl, hb⟩
    replace hS := hS.trans hb
    replace a_B := a_B.next hb; replace a_c0 := hb.cell a_c0; replace a_c1 := hb.cell a_c1; replace a_c2 := hb.cell a_c2; replace a_c3 := hb.cell a_c3; replace a_c4 := hb.cell a_c4; replace a_c5 := hb.cell a_c5; replace a_c6 := hb.cell a_c6; replace a_c7 := hb.cell a_c7; replace a_c8 := hb.cell a_c8; replace a_c9 := hb.cell a_c9; replace a_c10 := hb.cell a_c10
    clear hb
    go_wp2_with fail
    refine (HLS.out _ (HV.out.next hS)).mono ?_
    rintro e w2 ⟨rfl, hb⟩
    replace hS := hS.trans hb
    replace a_B := a_B.next hb; replace a_c0 := hb.cell a_c0; replace a_c1 := hb.cell a_c1; replace a_c2 := hb.cell a_c2; replace a_c3 := hb.cell a_c3; replace a_c4 := hb.cell a_c4; replace a_c5 := hb.cell a_c5; replace a_c6 := hb.cell a_c6; replace a_c7 := hb.cell a_c7; replace a_c8 := hb.cell a_c8; replace a_c9 := hb.cell a_c9; replace a_c10 := hb.cell a_c10
    clear hb
    go_wp2_with fail
    refine (HLA.out _).mono ?_
    rintro e w3 ⟨rfl, hb⟩
    replace hS := hS.trans hb
    clear hb
    go_wp2_with fail
    go_ret
    exact ⟨rfl, hS⟩
  rw [hla] at HLA
  have hLS := lightS_of hls
  have h40 : L.length ≤ 40 := hLS.1
  have HB := Lib.hid (fun W hv hE => bytes_any (.slice sa0 L.length sc0) L W hv hE hLS hF)
  have HL := Lib.hid hLS
  have HF := Lib.hid hF
  have HA := Lib.hid (fun W hE => catom_any a_s a_p a_n a_v0 a_v1 a_v2 a_v3 a_l0 a_l1 a_l2 a_l3 W fa hE hla)
  have hl2 := hla
  simp only [lightB, Bool.and_eq_true, decide_eq_true_eq, List.all_eq_true] at hl2
  obtain ⟨⟨l1, l2⟩, l3⟩ := hl2
  have l1' : a_s.length ≤ 300 := by have : (a_s.length : Int) ≤ 300 := l1; omega
  have l2' : a_p.length ≤ 300 := by have : (a_p.length : Int) ≤ 300 := l2; omega
  have L3 : Hid (∀ t ∈ argsL ((a_s, a_p, a_n, (a_v0, a_l0), (a_v1, a_l1), (a_v2, a_l2), (a_v3, a_l3)) : Atm), t.2.length ≤ 300) := by
    intro t ht
    have := l3 t ht
    omega
  clear l1 l2 l3 hls hla hLS hF fa
  -- what the last part comes to, wherever it begins
  obtain ⟨G, hG⟩ : ∃ G, Hid (G = checkA ((a_s, a_p, a_n, (a_v0, a_l0), (a_v1, a_l1), (a_v2, a_l2), (a_v3, a_l3)) : Atm)) := ⟨_, rfl⟩
  have hw1 : IntKind.u32.wrap (L.length : Int) = (L.length : Int) := u32_small (by omega) (by omega)
  obtain ⟨T, hT⟩ : ∃ T, Hid (T = stepsB L) := ⟨_, rfl⟩
  obtain ⟨X, hX⟩ : ∃ X, Hid (X = numL L.length) := ⟨_, rfl⟩
  have hlen := stepsB_le HL.out
  have hT0 : T = X ++ (L.drop 0).flatMap stepB := by rw [hT.out, hX.out, List.drop_zero]; rfl
  have HT0 := Lib.hid hT0
  have HN := Lib.hid (fun W => number_any L.length W (by omega))
  have HMF : Hid (maysB L = true → maysF 0 L = true) := by
    intro h
    rw [maysB, Bool.and_eq_true] at h
    exact h.2
  rw [← hX.out] at HN
  unfold CertBP at HB
  rw [← hT.out] at HB hlen
  clear hT hX hT0
  go_enter Tryd.func3, Tryd.ntmps3
  obtain ⟨a_c0, a_c1, a_c2, a_c3, a_c4, a_c5, a_c6, a_c7, a_c8, a_c9, a_c10⟩ := a_B.all
  go_wp2_with fail
  refine (lives23_any _).mono ?_
  rintro e w1 ⟨rfl, hb⟩
  replace hS := hS.trans hb
  replace a_B := a_B.next hb; replace a_c0 := hb.cell a_c0; replace a_c1 := hb.cell a_c1; replace a_c2 := hb.cell a_c2; replace a_c3 := hb.cell a_c3; replace a_c4 := hb.cell a_c4; replace a_c5 := hb.cell a_c5; replace a_c6 := hb.cell a_c6; replace a_c7 := hb.cell a_c7; replace a_c8 := hb.cell a_c8; replace a_c9 := hb.cell a_c9; replace a_c10 := hb.cell a_c10
  clear hb
  go_wp2_with fail
  refine (HLS.out _ (HV.out.next hS)).mono ?_
  rintro e w2 ⟨rfl, hb⟩
  replace hS := hS.trans hb
  replace a_B := a_B.next hb; replace a_c0 := hb.cell a_c0; replace a_c1 := hb.cell a_c1; replace a_c2 := hb.cell a_c2; replace a_c3 := hb.cell a_c3; replace a_c4 := hb.cell a_c4; replace a_c5 := hb.cell a_c5; replace a_c6 := hb.cell a_c6; replace a_c7 := hb.cell a_c7; replace a_c8 := hb.cell a_c8; replace a_c9 := hb.cell a_c9; replace a_c10 := hb.cell a_c10
  clear hb
  go_wp2_with fail
  refine (HLA.out _).mono ?_
  rintro e w3 ⟨rfl, hb⟩
  replace hS := hS.trans hb
  replace a_B := a_B.next hb
  clear hb a_c0 a_c1 a_c2 a_c3 a_c4 a_c5 a_c6 a_c7 a_c8 a_c9 a_c10 HLS HLA
  go_wp2_with fail
  refine (HB.out _ (HV.out.next hS) (HE.out.next hS)).mono ?_
  rintro e w4 ⟨rfl, hb⟩
  replace hS := hS.trans hb
  replace a_B := a_B.next hb
  clear hb HB
  cases hm : maysB L
  · rw [if_neg (by simp), if_neg (by simp)]
    obtain ⟨a_c0, a_c1, a_c2, a_c3, a_c4, a_c5, a_c6, a_c7, a_c8, a_c9, a_c10⟩ := a_B.all
    clear HT0 HN HMF hw1
    have hEt := HE.out.next hS
    have hAt := HA.out _ hEt
    unfold CertAP at hAt
    cases hz : (checkA ((a_s, a_p, a_n, (a_v0, a_l0), (a_v1, a_l1), (a_v2, a_l2), (a_v3, a_l3)) : Atm) != 0)
    case true =>
      have hk : certA ((a_s, a_p, a_n, (a_v0, a_l0), (a_v1, a_l1), (a_v2, a_l2), (a_v3, a_l3)) : Atm) = ([], 2) := by rw [certA, if_neg (by simpa using hz)]
      rw [hk] at hAt
      have HAT := Lib.hid hAt
      clear hAt hz hk HA
      go_wp2_with fail
      refine HAT.out.mono ?_
      rintro e wt ⟨rfl, hb⟩
      go_wp2_with fail
      go_ret
      exact ⟨rfl, hS.trans hb⟩
    case false =>
      have hz0 : checkA ((a_s, a_p, a_n, (a_v0, a_l0), (a_v1, a_l1), (a_v2, a_l2), (a_v3, a_l3)) : Atm) = 0 := by simpa using hz
      obtain ⟨n0, n4, nc⟩ := checkA_range hz0
      have hk : certA ((a_s, a_p, a_n, (a_v0, a_l0), (a_v1, a_l1), (a_v2, a_l2), (a_v3, a_l3)) : Atm) = (atomB ((a_s, a_p, a_n, (a_v0, a_l0), (a_v1, a_l1), (a_v2, a_l2), (a_v3, a_l3)) : Atm), 0) := by rw [certA, if_pos hz0]
      rw [hk] at hAt
      have hZl := parts_len (a := ((a_s, a_p, a_n, (a_v0, a_l0), (a_v1, a_l1), (a_v2, a_l2), (a_v3, a_l3)) : Atm)) l1' l2' L3.out ⟨n0, n4⟩
      obtain ⟨p, hp⟩ : ∃ p, Hid (p = countA ((a_s, a_p, a_n, (a_v0, a_l0), (a_v1, a_l1), (a_v2, a_l2), (a_v3, a_l3)) : Atm)) := ⟨_, rfl⟩
      rw [← hp.out] at hZl nc
      obtain ⟨A, hA⟩ : ∃ A, Hid (A = (argsL ((a_s, a_p, a_n, (a_v0, a_l0), (a_v1, a_l1), (a_v2, a_l2), (a_v3, a_l3)) : Atm)).take p) := ⟨_, rfl⟩
      rw [← hA.out] at hZl
      have HPN : Hid (a_n = (p : Int)) := nc.symm
      have hp4 : p ≤ 4 := by rw [hp.out]; exact countA_le _
      have hAl : A.length = p := by rw [hA.out, List.length_take, argsL_len]; omega
      have hA3 : Hid (∀ t ∈ A, t.2.length ≤ 300) := by
        intro t ht
        rw [hA.out] at ht
        exact L3.out t (List.mem_of_mem_take ht)
      have hsum := sumN_le A hA3.out
      have HAW : Hid (∀ W, Box W w.heap.size ((a_s, a_p, a_n, (a_v0, a_l0), (a_v1, a_l1), (a_v2, a_l2), (a_v3, a_l3)) : Atm) → ∀ k, (h : k < A.length) → W.cell? ⟨w.heap.size, 3 + k * 2, none⟩ = some (.bool A[k].1) ∧ W.cell? ⟨w.heap.size, 3 + k * 2 + 1, none⟩ = some (.string ⟨A[k].2.toArray⟩)) := by
        intro W hB k h
        have hh := hA.out
        subst hh
        rw [List.getElem_take]
        exact hB.args.2 k _
      have hZl2 : (atomB ((a_s, a_p, a_n, (a_v0, a_l0), (a_v1, a_l1), (a_v2, a_l2), (a_v3, a_l3)) : Atm)).length = a_s.length + a_p.length + 3 + sumN A + (if 128 ≤ a_s.length then 1 else 0) + (if 128 ≤ a_p.length then 1 else 0) := hZl
      have HZ := Lib.hid hZl2
      generalize atomB ((a_s, a_p, a_n, (a_v0, a_l0), (a_v1, a_l1), (a_v2, a_l2), (a_v3, a_l3)) : Atm) = Z at *
      have HAT := Lib.hid hAt
      clear hAt hz hz0 hk HA hZl hZl2 hA hp nc n0 n4
      have es : IntKind.i64.wrap ((a_s.length : Int) + (a_p.length : Int)) = (a_s.length : Int) + (a_p.length : Int) := IntWalk.i64_in _ (by omega)
      have es2 : IntKind.i64.wrap ((a_s.length : Int) + (a_p.length : Int) + 3) = (a_s.length : Int) + (a_p.length : Int) + 3 := IntWalk.i64_in _ (by omega)
      go_wp2_with fail
      refine HAT.out.mono ?_
      rintro e wt ⟨rfl, hb⟩
      replace a_B := a_B.next hb; replace a_c0 := hb.cell a_c0; replace a_c1 := hb.cell a_c1; replace a_c2 := hb.cell a_c2; replace a_c3 := hb.cell a_c3; replace a_c4 := hb.cell a_c4; replace a_c5 := hb.cell a_c5; replace a_c6 := hb.cell a_c6; replace a_c7 := hb.cell a_c7; replace a_c8 := hb.cell a_c8; replace a_c9 := hb.cell a_c9; replace a_c10 := hb.cell a_c10
      have hSt := hS.trans hb
      have HROW := Lib.hid (HAW.out wt a_B)
      clear hb HAT HAW hS a_B
      go_wp2_with fail
      clear es es2
      go_loop [14, 15] (fun n i => ∃ (k r : Nat), k ≤ p ∧ i = .int .i64 k ∧ n = .int .i64 r ∧ Hid (a_s.length + a_p.length + 3 + sumN A = r + sumN (A.drop k))) (fun _ i => p - (intOf i).toNat)
      case atStart => exact ⟨0, a_s.length + a_p.length + 3, by omega, rfl, by simp, by rw [List.drop_zero]; rfl⟩
      case round =>
        obtain ⟨k, r, hk, rfl, rfl, hres⟩ := hrel
        by_cases hlt : (k : Int) < a_n
        · have hkA : k < A.length := by have := HPN.out; omega
          obtain ⟨_, dk⟩ := HROW.out k hkA
          have hk4 : k < 4 := by omega
          have hl300 := hA3.out _ (List.getElem_mem hkA)
          have hst := hres.out
          rw [sumN_drop hkA, nameN] at hst
          have hr : r ≤ 10000 := by omega
          have HST := Lib.hid hst
          clear hst hres hsum
          generalize A[k] = x at *
          obtain ⟨xv, xl⟩ := x
          simp only at dk hl300
          have q1 : IntKind.i64.wrap ((r : Int) + 2) = (r : Int) + 2 := IntWalk.i64_in _ (by omega)
          have q2 : IntKind.i64.wrap ((r : Int) + 2 + (xl.length : Int)) = (r : Int) + 2 + (xl.length : Int) := IntWalk.i64_in _ (by omega)
          have q3 : IntKind.i64.wrap ((r : Int) + 2 + (xl.length : Int) + 1) = (r : Int) + 2 + (xl.length : Int) + 1 := IntWalk.i64_in _ (by omega)
          cases hg : decide ((128 : Int) ≤ (xl.length : Int))
          · have hg2 : ¬ 128 ≤ xl.length := by have := of_decide_eq_false hg; omega
            have HN3 : Hid (a_s.length + a_p.length + 3 + sumN A = (r + 2 + xl.length) + sumN (A.drop (k + 1))) := by
              have h := HST.out
              simp only [if_neg hg2] at h
              show _ = _
              omega
            clear hg2
            go_wp2_with fail
            go_round
            case rel => exact ⟨k + 1, r + 2 + xl.length, by omega, by go_num, by simp, HN3⟩
            case measure => simp [intOf]; omega
          · have hg2 : 128 ≤ xl.length := by have := of_decide_eq_true hg; omega
            have HN3 : Hid (a_s.length + a_p.length + 3 + sumN A = (r + 2 + xl.length + 1) + sumN (A.drop (k + 1))) := by
              have h := HST.out
              simp only [if_pos hg2] at h
              show _ = _
              omega
            clear hg2
            go_wp2_with fail
            go_round
            case rel => exact ⟨k + 1, r + 2 + xl.length + 1, by omega, by go_num, by simp, HN3⟩
            case measure => simp [intOf]; omega
        · have hd : A.drop k = [] := List.drop_eq_nil_of_le (by have := HPN.out; omega)
          have hz1 : a_s.length + a_p.length + 3 + sumN A = r := by have := hres.out; rw [hd] at this; simpa [sumN] using this
          have hr : r ≤ 10000 := by omega
          have hfin := HZ.out
          rw [hz1] at hfin
          have HFN := Lib.hid hfin
          clear hfin hres hd hz1 hsum
          have q1 : IntKind.i64.wrap ((r : Int) + 1) = (r : Int) + 1 := IntWalk.i64_in _ (by omega)
          have q2 : IntKind.i64.wrap ((r : Int) + 1 + 1) = (r : Int) + 1 + 1 := IntWalk.i64_in _ (by omega)
          cases gs : decide ((128 : Int) ≤ (a_s.length : Int)) <;> cases gp : decide ((128 : Int) ≤ (a_p.length : Int))
          all_goals
            go_wp2_with fail
            go_ret
            refine ⟨ret_bool ?_, hSt⟩
            have hfin := HFN.out
            simp only [decide_eq_true_eq, decide_eq_false_iff_not] at gs gp
            first
              | (rw [if_pos (by omega), if_pos (by omega)] at hfin; simp; omega)
              | (rw [if_pos (by omega), if_neg (by omega)] at hfin; simp; omega)
              | (rw [if_neg (by omega), if_pos (by omega)] at hfin; simp; omega)
              | (rw [if_neg (by omega), if_neg (by omega)] at hfin; simp; omega)
  · rw [if_pos rfl, if_pos rfl]
    have hmf := HMF.out hm
    have HM := Lib.hid hmf
    clear hm hmf HMF
    go_wp2_with fail
    refine (HN.out _).mono ?_
    rintro e w5 ⟨rfl, hb⟩
    replace hS := hS.trans hb
    replace a_B := a_B.next hb
    clear hb HN
    go_wp2_with fail
    clear hw1
    have HB0 := Lib.hid a_B
    go_loopw [7, 8] (fun o i wr => ∃ (k : Nat) (acc : List UInt8), k ≤ L.length ∧ i = .int .i64 k ∧ o = .string ⟨acc.toArray⟩ ∧ Since w wr ∧ Box wr w.heap.size ((a_s, a_p, a_n, (a_v0, a_l0), (a_v1, a_l1), (a_v2, a_l2), (a_v3, a_l3)) : Atm) ∧ Hid (T = acc ++ (L.drop k).flatMap stepB)) (fun _ i _ => L.length - (intOf i).toNat)
    case atStart => exact ⟨0, X, by omega, rfl, rfl, hS, a_B, HT0.out⟩
    case round =>
      clear hS a_B HT0 HB0
      obtain ⟨k, acc, hk, rfl, rfl, hS, a_B, hres⟩ := hrel
      by_cases hlt : k < L.length
      · obtain ⟨b, o, he, hat⟩ := HV.out.get (by omega)
        cases he
        have hst := hat k hlt
        have hmay := maysF_at 0 L HM.out k hlt
        rw [Nat.zero_add] at hmay
        have htr : T = (acc ++ stepB L[k]) ++ (L.drop (k + 1)).flatMap stepB := by
          rw [hres.out, List.drop_eq_getElem_cons hlt, List.flatMap_cons, List.append_assoc]
        have hlx : lightB L[k].1 = true ∧ L[k].2.2.length ≤ 20 := HL.out.2 _ (List.getElem_mem hlt)
        have hfx : FitsA L[k].1 := HF.out _ (List.getElem_mem hlt)
        have hbl : acc.length + (stepB L[k]).length ≤ 100000 := by
          have := congrArg List.length htr
          rw [List.length_append, List.length_append] at this
          omega
        have HTR := Lib.hid htr
        clear hat htr hres
        have hE := HE.out.next hS
        generalize L[k] = x at *
        obtain ⟨⟨b_s, b_p, b_n, ⟨b_v0, b_l0⟩, ⟨b_v1, b_l1⟩, ⟨b_v2, b_l2⟩, ⟨b_v3, b_l3⟩⟩, cl, cs⟩ := x
        obtain ⟨b_c0, b_c1, b_c2, b_c3, b_c4, b_c5, b_c6, b_c7, b_c8, b_c9, b_c10⟩ := (hst.next hS).atom
        obtain ⟨_, k1, sa, sc, k2, hcs⟩ := hst
        have k1' : wr.cell? ⟨b, o + k * 13 + 11, none⟩ = some (.int .i64 cl) := hS.cell k1
        have k2' : wr.cell? ⟨b, o + k * 13 + 12, none⟩ = some (.slice sa cs.length sc) := hS.cell k2
        have k2w : Hid (w.cell? ⟨b, o + k * 13 + 12, none⟩ = some (.slice sa cs.length sc)) := k2
        have hcw : Hid (CiteRow w (.slice sa cs.length sc) cs) := hcs
        have hc20 : cs.length ≤ 20 := hlx.2
        clear k1 k2 hcs
        obtain ⟨hck, cl1, cl2, cs16, hcc⟩ := may_cl hmay
        obtain ⟨cn, hcn⟩ : ∃ cn : Nat, cl + 1 = (cn : Int) := ⟨(cl + 1).toNat, by have h : -1 ≤ cl := cl1; omega⟩
        have hcn2 : cn ≤ 65537 := by have h : cl ≤ 65536 := cl2; omega
        have e1 : IntKind.i64.wrap (cl + 1) = cl + 1 := IntWalk.i64_in _ (by omega)
        have e2 : IntKind.u32.wrap (cl + 1) = (cn : Int) := by rw [u32_small (by omega) (by omega)]; exact hcn
        have e3 : IntKind.u32.wrap (cs.length : Int) = (cs.length : Int) := u32_small (by omega) (by omega)
        obtain ⟨B, hB⟩ : ∃ B, Hid (B = atomB ((b_s, b_p, b_n, (b_v0, b_l0), (b_v1, b_l1), (b_v2, b_l2), (b_v3, b_l3)) : Atm)) := ⟨_, rfl⟩
        have HA2 : Hid (∀ W, Env W → Calls Tryd.prog 13 #[.agg #[.string ⟨b_s.toArray⟩, .string ⟨b_p.toArray⟩, .int .i64 b_n, .bool b_v0, .string ⟨b_l0.toArray⟩, .bool b_v1, .string ⟨b_l1.toArray⟩, .bool b_v2, .string ⟨b_l2.toArray⟩, .bool b_v3, .string ⟨b_l3.toArray⟩]] W fun e w' => e = .returned (.tuple #[.string ⟨B.toArray⟩, .int .i64 0]) ∧ Since W w') := by
          intro W hEW
          have h := catom_any b_s b_p b_n b_v0 b_v1 b_v2 b_v3 b_l0 b_l1 b_l2 b_l3 W hfx hEW hlx.1
          have hk : certA ((b_s, b_p, b_n, (b_v0, b_l0), (b_v1, b_l1), (b_v2, b_l2), (b_v3, b_l3)) : Atm) = (B, 0) := by rw [certA, if_pos hck, hB.out]
          unfold CertAP at h
          rw [hk] at h
          exact h
        obtain ⟨n1, hn1⟩ : ∃ n1, Hid (n1 = numL cn) := ⟨_, rfl⟩
        obtain ⟨n2, hn2⟩ : ∃ n2, Hid (n2 = numL cs.length) := ⟨_, rfl⟩
        obtain ⟨P1, hP1⟩ : ∃ P, Hid (P = acc ++ n1) := ⟨_, rfl⟩
        obtain ⟨P2, hP2⟩ : ∃ P, Hid (P = P1 ++ B) := ⟨_, rfl⟩
        obtain ⟨P3, hP3⟩ : ∃ P, Hid (P = P2 ++ n2) := ⟨_, rfl⟩
        have hstp : acc ++ stepB (((b_s, b_p, b_n, (b_v0, b_l0), (b_v1, b_l1), (b_v2, b_l2), (b_v3, b_l3)) : Atm), cl, cs) = P3 ++ citesB cs := by
          have e : (cl + 1).toNat = cn := by omega
          show acc ++ ((numL (cl + 1).toNat ++ (atomB ((b_s, b_p, b_n, (b_v0, b_l0), (b_v1, b_l1), (b_v2, b_l2), (b_v3, b_l3)) : Atm) ++ numL cs.length)) ++ citesB cs) = _
          rw [hP3.out, hP2.out, hP1.out, hn1.out, hn2.out, hB.out, e]; simp only [List.append_assoc]
        have hl3 : P3.length ≤ 100000 := by
          have := congrArg List.length hstp
          rw [List.length_append, List.length_append] at this
          omega
        have hl2 : P2.length + n2.length = P3.length := by rw [hP3.out, List.length_append]
        have hl1 : P1.length + B.length = P2.length := by rw [hP2.out, List.length_append]
        have hl0 : acc.length + n1.length = P1.length := by rw [hP1.out, List.length_append]
        have hc1 : ByteArray.mk acc.toArray ++ ByteArray.mk n1.toArray = ByteArray.mk P1.toArray := by rw [hP1.out]; exact cat_bytes _ _
        have hc2 : ByteArray.mk P1.toArray ++ ByteArray.mk B.toArray = ByteArray.mk P2.toArray := by rw [hP2.out]; exact cat_bytes _ _
        have hc3 : ByteArray.mk P2.toArray ++ ByteArray.mk n2.toArray = ByteArray.mk P3.toArray := by rw [hP3.out]; exact cat_bytes _ _
        have ha1 := fun W => run_cat hc1 (by show acc.length + n1.length ≤ 1000000; omega) W
        have ha2 := fun W => run_cat hc2 (by show P1.length + B.length ≤ 1000000; omega) W
        have ha3 := fun W => run_cat hc3 (by show P2.length + n2.length ≤ 1000000; omega) W
        have htr2 : T = P3 ++ (citesB (cs.drop 0) ++ (L.drop (k + 1)).flatMap stepB) := by
          rw [HTR.out, hstp, List.drop_zero, List.append_assoc]
        have HTR2 := Lib.hid htr2
        have HCC : Hid (∀ c ∈ cs, 0 ≤ c ∧ c < k) := hcc
        have HN1 := Lib.hid (fun W => number_any cn W (by omega))
        have HN2 := Lib.hid (fun W => number_any cs.length W (by omega))
        rw [← hn1.out] at HN1
        rw [← hn2.out] at HN2
        clear HTR hmay hstp htr2 hcc cl1 cl2 hck hbl hlx hfx hB hn1 hn2 hP1 hP2 hP3 hcn hc1 hc2 hc3
        go_wp2_with fail
        refine (HA2.out _ hE).mono ?_
        rintro e w6 ⟨rfl, hb⟩
        have hS6 := hS.trans hb
        have a_B6 := a_B.next hb
        replace k1' := hb.cell k1'
        replace k2' := hb.cell k2'
        clear hb hS a_B hE b_c0 b_c1 b_c2 b_c3 b_c4 b_c5 b_c6 b_c7 b_c8 b_c9 b_c10 HA2
        go_wp2_with fail
        go_region_held3 (fun w' => (w'.cell? ⟨b, o + k * 13 + 11, none⟩ = some (.int .i64 cl) ∧ w'.cell? ⟨b, o + k * 13 + 12, none⟩ = some (.slice sa cs.length sc)) ∧ Box w' w.heap.size ((a_s, a_p, a_n, (a_v0, a_l0), (a_v1, a_l1), (a_v2, a_l2), (a_v3, a_l3)) : Atm) ∧ Since w w')
          ((go_split_ands; (refine ⟨⟨?_, ?_⟩, ?_, ?_⟩) <;> (first | assumption | (refine Since.drew ?_; assumption) | (refine Since.cell hb ?_; assumption) | (refine Box.next ?_ hb; assumption) | (refine Since.trans ?_ hb; assumption))))
          (first
            | (go_at_call 12; first | ((with_reducible refine (HN1.out _).mono ?_); rintro e w7 ⟨rfl, hb⟩) | ((with_reducible refine (HN2.out _).mono ?_); rintro e w7 ⟨rfl, hb⟩)))
        clear hS6 a_B6 k1' k2'
        go_split_ands
        have hS7 : Since w w7 := by assumption
        have a_B7 : Box w7 w.heap.size ((a_s, a_p, a_n, (a_v0, a_l0), (a_v1, a_l1), (a_v2, a_l2), (a_v3, a_l3)) : Atm) := by assumption
        go_wp2_with fail
        clear ha1 ha2 ha3 e1 e2 e3 HN1 HN2
        go_loopw [7, 11] (fun u j wq => ∃ (m : Nat) (acc2 : List UInt8), m ≤ cs.length ∧ j = .int .i64 m ∧ u = .string ⟨acc2.toArray⟩ ∧ Since w wq ∧ Box wq w.heap.size ((a_s, a_p, a_n, (a_v0, a_l0), (a_v1, a_l1), (a_v2, a_l2), (a_v3, a_l3)) : Atm) ∧ Hid (T = acc2 ++ (citesB (cs.drop m) ++ (L.drop (k + 1)).flatMap stepB))) (fun _ j _ => cs.length - (intOf j).toNat)
        case atStart => exact ⟨0, P3, by omega, rfl, rfl, hS7, a_B7, HTR2.out⟩
        case round =>
          clear hS7 a_B7 HTR2
          obtain ⟨m, acc2, hm, rfl, rfl, hSq, a_Bq, htq⟩ := hrel
          have kq := hSq.cell k2w.out
          by_cases hmt2 : m < cs.length
          · obtain ⟨bc, oc, cc, hec, _, hcc⟩ := (hcw.out.next hSq).some (by omega)
            cases hec
            have d := hcc m (by simpa using hmt2)
            simp only [List.getElem_map, intV] at d
            obtain ⟨c0, ck⟩ := HCC.out _ (List.getElem_mem hmt2)
            have htr3 : T = (acc2 ++ numL cs[m].toNat) ++ (citesB (cs.drop (m + 1)) ++ (L.drop (k + 1)).flatMap stepB) := by
              have : citesB (cs.drop m) = numL cs[m].toNat ++ citesB (cs.drop (m + 1)) := by rw [citesB, List.drop_eq_getElem_cons hmt2, List.flatMap_cons]; rfl
              rw [htq.out, this]; simp only [List.append_assoc]
            have hl3 : acc2.length + (numL cs[m].toNat).length ≤ 100000 := by
              have := congrArg List.length htr3
              rw [List.length_append, List.length_append] at this
              omega
            have HT3 := Lib.hid htr3
            clear hcc htr3 htq
            generalize cs[m] = q at *
            obtain ⟨qn, hqn⟩ : ∃ qn : Nat, q = (qn : Int) := ⟨q.toNat, by omega⟩
            subst hqn
            rw [Int.toNat_natCast] at hl3 HT3
            have e3 : IntKind.u32.wrap (qn : Int) = (qn : Int) := u32_small (by omega) (by omega)
            have HNQ := Lib.hid (fun W => number_any qn W (by omega))
            generalize numL qn = N at *
            have hcq := cat_bytes acc2 N
            go_wp2_with fail
            refine (HNQ.out _).mono ?_
            rintro e w8 ⟨rfl, hb8⟩
            go_wp2_with fail
            go_roundw
            case rel => exact ⟨m + 1, acc2 ++ N, by omega, by go_num, rfl, hSq.trans hb8, a_Bq.next hb8, HT3.out⟩
            case measure => simp [intOf]; omega
          · obtain rfl : m = cs.length := by omega
            have hd : cs.drop cs.length = [] := List.drop_length
            have hT9 : Hid (T = acc2 ++ (L.drop (k + 1)).flatMap stepB) := by
              show _ = _
              have := htq.out
              rw [hd] at this
              exact this
            clear htq
            go_wp2_with fail
            go_roundw
            case rel => exact ⟨k + 1, acc2, by omega, by go_num, rfl, hSq, a_Bq, hT9⟩
            case measure => simp [intOf]; omega
      · obtain rfl : k = L.length := by omega
        have hd : L.drop L.length = [] := List.drop_length
        have hacc : acc = T := by rw [hres.out, hd]; simp
        subst hacc
        clear hres
        obtain ⟨a_c0, a_c1, a_c2, a_c3, a_c4, a_c5, a_c6, a_c7, a_c8, a_c9, a_c10⟩ := a_B.all
        have hEt := HE.out.next hS
        have hAt := HA.out _ hEt
        unfold CertAP at hAt
        cases hz : (checkA ((a_s, a_p, a_n, (a_v0, a_l0), (a_v1, a_l1), (a_v2, a_l2), (a_v3, a_l3)) : Atm) != 0)
        case true =>
          have hk : certA ((a_s, a_p, a_n, (a_v0, a_l0), (a_v1, a_l1), (a_v2, a_l2), (a_v3, a_l3)) : Atm) = ([], 2) := by rw [certA, if_neg (by simpa using hz)]
          rw [hk] at hAt
          have HAT := Lib.hid hAt
          clear hAt hz hk HA
          go_wp2_with fail
          refine HAT.out.mono ?_
          rintro e wt ⟨rfl, hb⟩
          go_wp2_with fail
          go_ret
          exact ⟨rfl, hS.trans hb⟩
        case false =>
          have hz0 : checkA ((a_s, a_p, a_n, (a_v0, a_l0), (a_v1, a_l1), (a_v2, a_l2), (a_v3, a_l3)) : Atm) = 0 := by simpa using hz
          obtain ⟨n0, n4, nc⟩ := checkA_range hz0
          have hk : certA ((a_s, a_p, a_n, (a_v0, a_l0), (a_v1, a_l1), (a_v2, a_l2), (a_v3, a_l3)) : Atm) = (atomB ((a_s, a_p, a_n, (a_v0, a_l0), (a_v1, a_l1), (a_v2, a_l2), (a_v3, a_l3)) : Atm), 0) := by rw [certA, if_pos hz0]
          rw [hk] at hAt
          have hZl := parts_len (a := ((a_s, a_p, a_n, (a_v0, a_l0), (a_v1, a_l1), (a_v2, a_l2), (a_v3, a_l3)) : Atm)) l1' l2' L3.out ⟨n0, n4⟩
          obtain ⟨p, hp⟩ : ∃ p, Hid (p = countA ((a_s, a_p, a_n, (a_v0, a_l0), (a_v1, a_l1), (a_v2, a_l2), (a_v3, a_l3)) : Atm)) := ⟨_, rfl⟩
          rw [← hp.out] at hZl nc
          obtain ⟨A, hA⟩ : ∃ A, Hid (A = (argsL ((a_s, a_p, a_n, (a_v0, a_l0), (a_v1, a_l1), (a_v2, a_l2), (a_v3, a_l3)) : Atm)).take p) := ⟨_, rfl⟩
          rw [← hA.out] at hZl
          have HPN : Hid (a_n = (p : Int)) := nc.symm
          have hp4 : p ≤ 4 := by rw [hp.out]; exact countA_le _
          have hAl : A.length = p := by rw [hA.out, List.length_take, argsL_len]; omega
          have hA3 : Hid (∀ t ∈ A, t.2.length ≤ 300) := by
            intro t ht
            rw [hA.out] at ht
            exact L3.out t (List.mem_of_mem_take ht)
          have hsum := sumN_le A hA3.out
          have HAW : Hid (∀ W, Box W w.heap.size ((a_s, a_p, a_n, (a_v0, a_l0), (a_v1, a_l1), (a_v2, a_l2), (a_v3, a_l3)) : Atm) → ∀ k, (h : k < A.length) → W.cell? ⟨w.heap.size, 3 + k * 2, none⟩ = some (.bool A[k].1) ∧ W.cell? ⟨w.heap.size, 3 + k * 2 + 1, none⟩ = some (.string ⟨A[k].2.toArray⟩)) := by
            intro W hB k h
            have hh := hA.out
            subst hh
            rw [List.getElem_take]
            exact hB.args.2 k _
          have hZl2 : (atomB ((a_s, a_p, a_n, (a_v0, a_l0), (a_v1, a_l1), (a_v2, a_l2), (a_v3, a_l3)) : Atm)).length = a_s.length + a_p.length + 3 + sumN A + (if 128 ≤ a_s.length then 1 else 0) + (if 128 ≤ a_p.length then 1 else 0) := hZl
          have HZ := Lib.hid hZl2
          generalize atomB ((a_s, a_p, a_n, (a_v0, a_l0), (a_v1, a_l1), (a_v2, a_l2), (a_v3, a_l3)) : Atm) = Z at *
          have HAT := Lib.hid hAt
          clear hAt hz hz0 hk HA hZl hZl2 hA hp nc n0 n4
          have es : IntKind.i64.wrap ((a_s.length : Int) + (a_p.length : Int)) = (a_s.length : Int) + (a_p.length : Int) := IntWalk.i64_in _ (by omega)
          have es2 : IntKind.i64.wrap ((a_s.length : Int) + (a_p.length : Int) + 3) = (a_s.length : Int) + (a_p.length : Int) + 3 := IntWalk.i64_in _ (by omega)
          go_wp2_with fail
          refine HAT.out.mono ?_
          rintro e wt ⟨rfl, hb⟩
          replace a_B := a_B.next hb; replace a_c0 := hb.cell a_c0; replace a_c1 := hb.cell a_c1; replace a_c2 := hb.cell a_c2; replace a_c3 := hb.cell a_c3; replace a_c4 := hb.cell a_c4; replace a_c5 := hb.cell a_c5; replace a_c6 := hb.cell a_c6; replace a_c7 := hb.cell a_c7; replace a_c8 := hb.cell a_c8; replace a_c9 := hb.cell a_c9; replace a_c10 := hb.cell a_c10
          have hSt := hS.trans hb
          have HROW := Lib.hid (HAW.out wt a_B)
          clear hb HAT HAW hS a_B
          go_wp2_with fail
          clear es es2
          go_loop [14, 15] (fun n i => ∃ (k r : Nat), k ≤ p ∧ i = .int .i64 k ∧ n = .int .i64 r ∧ Hid (a_s.length + a_p.length + 3 + sumN A = r + sumN (A.drop k))) (fun _ i => p - (intOf i).toNat)
          case atStart => exact ⟨0, a_s.length + a_p.length + 3, by omega, rfl, by simp, by rw [List.drop_zero]; rfl⟩
          case round =>
            obtain ⟨k, r, hk, rfl, rfl, hres⟩ := hrel
            by_cases hlt : (k : Int) < a_n
            · have hkA : k < A.length := by have := HPN.out; omega
              obtain ⟨_, dk⟩ := HROW.out k hkA
              have hk4 : k < 4 := by omega
              have hl300 := hA3.out _ (List.getElem_mem hkA)
              have hst := hres.out
              rw [sumN_drop hkA, nameN] at hst
              have hr : r ≤ 10000 := by omega
              have HST := Lib.hid hst
              clear hst hres hsum
              generalize A[k] = x at *
              obtain ⟨xv, xl⟩ := x
              simp only at dk hl300
              have q1 : IntKind.i64.wrap ((r : Int) + 2) = (r : Int) + 2 := IntWalk.i64_in _ (by omega)
              have q2 : IntKind.i64.wrap ((r : Int) + 2 + (xl.length : Int)) = (r : Int) + 2 + (xl.length : Int) := IntWalk.i64_in _ (by omega)
              have q3 : IntKind.i64.wrap ((r : Int) + 2 + (xl.length : Int) + 1) = (r : Int) + 2 + (xl.length : Int) + 1 := IntWalk.i64_in _ (by omega)
              cases hg : decide ((128 : Int) ≤ (xl.length : Int))
              · have hg2 : ¬ 128 ≤ xl.length := by have := of_decide_eq_false hg; omega
                have HN3 : Hid (a_s.length + a_p.length + 3 + sumN A = (r + 2 + xl.length) + sumN (A.drop (k + 1))) := by
                  have h := HST.out
                  simp only [if_neg hg2] at h
                  show _ = _
                  omega
                clear hg2
                go_wp2_with fail
                go_round
                case rel => exact ⟨k + 1, r + 2 + xl.length, by omega, by go_num, by simp, HN3⟩
                case measure => simp [intOf]; omega
              · have hg2 : 128 ≤ xl.length := by have := of_decide_eq_true hg; omega
                have HN3 : Hid (a_s.length + a_p.length + 3 + sumN A = (r + 2 + xl.length + 1) + sumN (A.drop (k + 1))) := by
                  have h := HST.out
                  simp only [if_pos hg2] at h
                  show _ = _
                  omega
                clear hg2
                go_wp2_with fail
                go_round
                case rel => exact ⟨k + 1, r + 2 + xl.length + 1, by omega, by go_num, by simp, HN3⟩
                case measure => simp [intOf]; omega
            · have hd : A.drop k = [] := List.drop_eq_nil_of_le (by have := HPN.out; omega)
              have hz1 : a_s.length + a_p.length + 3 + sumN A = r := by have := hres.out; rw [hd] at this; simpa [sumN] using this
              have hr : r ≤ 10000 := by omega
              have hfin := HZ.out
              rw [hz1] at hfin
              have HFN := Lib.hid hfin
              clear hfin hres hd hz1 hsum
              have q1 : IntKind.i64.wrap ((r : Int) + 1) = (r : Int) + 1 := IntWalk.i64_in _ (by omega)
              have q2 : IntKind.i64.wrap ((r : Int) + 1 + 1) = (r : Int) + 1 + 1 := IntWalk.i64_in _ (by omega)
              cases gs : decide ((128 : Int) ≤ (a_s.length : Int)) <;> cases gp : decide ((128 : Int) ≤ (a_p.length : Int))
              all_goals
                go_wp2_with fail
                go_ret
                refine ⟨ret_bool ?_, hSt⟩
                have hfin := HFN.out
                simp only [decide_eq_true_eq, decide_eq_false_iff_not] at gs gp
                first
                  | (rw [if_pos (by omega), if_pos (by omega)] at hfin; simp; omega)
                  | (rw [if_pos (by omega), if_neg (by omega)] at hfin; simp; omega)
                  | (rw [if_neg (by omega), if_pos (by omega)] at hfin; simp; omega)
                  | (rw [if_neg (by omega), if_neg (by omega)] at hfin; simp; omega)
end Go.Proofs.YtiadjmfdahendaaDoor
