/- Steps in memory; cert.Bytes: a derivation's bytes, or the error. -/
import Derived.Test.YtiadjmfdahendaaDoorCertM
namespace Go.Proofs.YtiadjmfdahendaaDoor
open Go.RowKit

/-- A slice of steps, each step thirteen cells. -/
def StpAt (W : World) (b o : Nat) (x : Stp) : Prop :=
  (∀ j u, (atmC x.1)[j]? = some u → W.cell? ⟨b, o + j, none⟩ = some u) ∧ W.cell? ⟨b, o + 11, none⟩ = some (.int .i64 x.2.1) ∧ ∃ a c, W.cell? ⟨b, o + 12, none⟩ = some (.slice a x.2.2.length c) ∧ CiteRow W (.slice a x.2.2.length c) x.2.2
theorem StpAt.next {W W' : World} {b o : Nat} {x : Stp} (h : StpAt W b o x) (hs : Since W W') : StpAt W' b o x := by
  obtain ⟨h1, h2, a, c, h3, h4⟩ := h
  exact ⟨fun j u hu => hs.cell (h1 j u hu), hs.cell h2, a, c, hs.cell h3, h4.next hs⟩
def StpRow (W : World) (v : Value) (L : List Stp) : Prop :=
  ∃ a c, v = .slice a L.length c ∧ L.length ≤ c ∧ (0 < L.length → ∃ b o, a = some ⟨b, o, none⟩ ∧ ∀ k, (h : k < L.length) → StpAt W b (o + k * 13) L[k])
theorem StpRow.next {W W' : World} {v : Value} {L : List Stp} (h : StpRow W v L) (hs : Since W W') : StpRow W' v L := by
  obtain ⟨a, c, h1, h2, h3⟩ := h
  refine ⟨a, c, h1, h2, fun h0 => ?_⟩
  obtain ⟨b, o, h4, h5⟩ := h3 h0
  exact ⟨b, o, h4, fun k hk => (h5 k hk).next hs⟩
theorem StpRow.form {W : World} {v : Value} {L : List Stp} (h : StpRow W v L) : ∃ a c, v = .slice a L.length c := by
  obtain ⟨a, c, h1, _⟩ := h
  exact ⟨a, c, h1⟩
theorem StpRow.get {W : World} {a : Option Addr} {n c : Nat} {L : List Stp} (h : StpRow W (.slice a n c) L) (h0 : 0 < L.length) : ∃ b o, a = some ⟨b, o, none⟩ ∧ ∀ k, (h : k < L.length) → StpAt W b (o + k * 13) L[k] := by
  obtain ⟨a', c', h1, _, h3⟩ := h
  injection h1 with h1 _ _
  subst h1
  exact h3 h0
/-- The eleven cells of a step's atom. -/
theorem StpAt.atom {W : World} {b o : Nat} (a_s a_p : List UInt8) (a_n : Int) (a_v0 a_v1 a_v2 a_v3 : Bool) (a_l0 a_l1 a_l2 a_l3 : List UInt8) {cl : Int} {cs : List Int} (h : StpAt W b o (((a_s, a_p, a_n, (a_v0, a_l0), (a_v1, a_l1), (a_v2, a_l2), (a_v3, a_l3)) : Atm), cl, cs)) : W.cell? ⟨b, o, none⟩ = some (.string ⟨a_s.toArray⟩) ∧ W.cell? ⟨b, o + 1, none⟩ = some (.string ⟨a_p.toArray⟩) ∧ W.cell? ⟨b, o + 2, none⟩ = some (.int .i64 a_n) ∧ W.cell? ⟨b, o + 3, none⟩ = some (.bool a_v0) ∧ W.cell? ⟨b, o + 4, none⟩ = some (.string ⟨a_l0.toArray⟩) ∧ W.cell? ⟨b, o + 5, none⟩ = some (.bool a_v1) ∧ W.cell? ⟨b, o + 6, none⟩ = some (.string ⟨a_l1.toArray⟩) ∧ W.cell? ⟨b, o + 7, none⟩ = some (.bool a_v2) ∧ W.cell? ⟨b, o + 8, none⟩ = some (.string ⟨a_l2.toArray⟩) ∧ W.cell? ⟨b, o + 9, none⟩ = some (.bool a_v3) ∧ W.cell? ⟨b, o + 10, none⟩ = some (.string ⟨a_l3.toArray⟩) :=
  ⟨h.1 0 _ rfl, h.1 1 _ rfl, h.1 2 _ rfl, h.1 3 _ rfl, h.1 4 _ rfl, h.1 5 _ rfl, h.1 6 _ rfl, h.1 7 _ rfl, h.1 8 _ rfl, h.1 9 _ rfl, h.1 10 _ rfl⟩
/-- Steps of no more than so much. -/
def LightS (L : List Stp) : Prop := L.length ≤ 40 ∧ ∀ x ∈ L, lightB x.1 = true ∧ x.2.2.length ≤ 20
def FitsS (L : List Stp) : Prop := ∀ x ∈ L, FitsA x.1
theorem stepsB_le {L : List Stp} (h : LightS L) : (stepsB L).length ≤ 100000 := by
  have e1 := num_len L.length
  have e2 := flat_len_le stepB 2110 L (fun x hx => stepB_le (h.2 x hx).1 (h.2 x hx).2)
  have e3 := Nat.mul_le_mul_right 2110 h.1
  rw [stepsB, List.length_append]; omega
/-- Steps whose bytes are not many. -/
def LightW (L : List Stp) : Prop := L.length ≤ 1000 ∧ (stepsB L).length ≤ 100000 ∧ ∀ x ∈ L, lightB x.1 = true ∧ x.2.2.length ≤ 20
theorem LightS.w {L : List Stp} (h : LightS L) : LightW L := ⟨by have := h.1; omega, stepsB_le h, h.2⟩
def CertBP (L : List Stp) (w : World) (e : Ending) (w' : World) : Prop :=
  e = .returned (.tuple #[.string ⟨(if maysB L then stepsB L else []).toArray⟩, .int .i64 (if maysB L then 0 else 2)]) ∧ Since w w'
theorem u32_small {n : Int} (h0 : 0 ≤ n) (h1 : n ≤ 1000000) : IntKind.u32.wrap n = n := IntWalk.u32_in _ (by omega)
theorem may_cl {i : Nat} {x : Stp} (h : mayB i x = true) : checkA x.1 = 0 ∧ -1 ≤ x.2.1 ∧ x.2.1 ≤ 65536 ∧ x.2.2.length ≤ 16 ∧ ∀ c ∈ x.2.2, 0 ≤ c ∧ c < i := by
  simp only [mayB, Bool.and_eq_true, decide_eq_true_eq, beq_iff_eq, List.all_eq_true, citeB] at h
  exact ⟨h.1, h.2.2.1, h.2.2.2.1, h.2.2.2.2.1, h.2.2.2.2.2⟩

set_option maxHeartbeats 4000000 in
set_option maxRecDepth 100000 in
theorem bytesW_any (v : Value) (L : List Stp) (w : World) (hv : StpRow w v L) (hE : Env w) (hL : LightW L) (hF : FitsS L) :
    Calls Tryd.prog 11 #[v] w (CertBP L w) := by
  obtain ⟨i0, hi, hz0, hz1, hz2⟩ := info_parts infoU8
  have HI := Lib.hid (And.intro hi (And.intro hz0 (And.intro hz1 hz2)))
  clear hi hz0 hz1 hz2
  obtain ⟨a, c, rfl⟩ := hv.form
  have HV := Lib.hid hv
  have HL := Lib.hid hL
  have HF := Lib.hid hF
  have h40 : L.length ≤ 1000 := hL.1
  have hlen := hL.2.1
  have hw1 : IntKind.u32.wrap (L.length : Int) = (L.length : Int) := u32_small (by omega) (by omega)
  obtain ⟨T, hT⟩ : ∃ T, Hid (T = stepsB L) := ⟨_, rfl⟩
  obtain ⟨X, hX⟩ : ∃ X, Hid (X = numL L.length) := ⟨_, rfl⟩
  have hXl : X.length ≤ 1000000 := by have := num_len L.length; rw [hX.out]; omega
  have hT0 : T = X ++ (L.drop 0).flatMap stepB := by rw [hT.out, hX.out, List.drop_zero]; rfl
  have hM0 : maysB L = maysF 0 (L.drop 0) := by rw [maysB, decide_eq_true (by omega)]; simp
  have HP1 : Hid (∀ W, maysB L = true → Since w W → CertBP L w (.returned (.tuple #[.string ⟨T.toArray⟩, .int .i64 0])) W) := by
    intro W hm hs
    rw [CertBP, hm, ← hT.out]; exact ⟨rfl, hs⟩
  have HP2 : Hid (∀ W, maysB L = false → Since w W → CertBP L w (.returned (.tuple #[.string ⟨#[]⟩, .int .i64 2])) W) := by
    intro W hm hs
    rw [CertBP, hm]; exact ⟨rfl, hs⟩
  rw [← hT.out] at hlen
  have HN := Lib.hid (fun W => number_any L.length W (by omega))
  rw [← hX.out] at HN
  have HT0 := Lib.hid hT0
  have HM0 := Lib.hid hM0
  clear hT hX hT0 hM0 hv hL hF
  go_enter Tryd.func11, Tryd.ntmps11
  go_wp2_with fail
  refine (HN.out _).mono ?_
  rintro e w1 ⟨rfl, hb1⟩
  obtain ⟨v1, w2, hcv, hown1, hb2⟩ := conv_bytes w1 X hXl
  have hown := hown1.down (B := w.heap.size) hb1.size
  have hS := hb1.trans hb2
  have hE2 := hE.next hS
  clear hb1 hb2 hown1 HN
  go_wp2_with fail
  clear hcv hw1
  go_loopw [4, 21] (fun u i wr => ∃ (k : Nat) (acc : List UInt8), k ≤ L.length ∧ i = .int .i64 k ∧ OwnsBytes wr w.heap.size 5 u acc ∧ Since w wr ∧ Hid (T = acc ++ (L.drop k).flatMap stepB) ∧ Hid (maysB L = maysF k (L.drop k))) (fun _ i _ => L.length - (intOf i).toNat)
  case atStart => exact ⟨0, X, by omega, rfl, hown, hS, HT0.out, HM0.out⟩
  case round =>
    clear hown hS hE2 HT0 HM0 hXl
    obtain ⟨k, acc, hk, rfl, hown, hS, hres, hmay⟩ := hrel
    by_cases hlt : k < L.length
    · obtain ⟨b, o, he, hat⟩ := HV.out.get (by omega)
      cases he
      have hst := hat k hlt
      have hmr : maysB L = (mayB k L[k] && maysF (k + 1) (L.drop (k + 1))) := by
        have := maysF_drop (i := 0) hlt
        rw [Nat.zero_add, Nat.zero_add] at this
        rw [hmay.out, this]
      have htr : T = (acc ++ stepB L[k]) ++ (L.drop (k + 1)).flatMap stepB := by
        rw [hres.out, List.drop_eq_getElem_cons hlt, List.flatMap_cons, List.append_assoc]
      have hlx : lightB L[k].1 = true ∧ L[k].2.2.length ≤ 20 := HL.out.2.2 _ (List.getElem_mem hlt)
      have hfx : FitsA L[k].1 := HF.out _ (List.getElem_mem hlt)
      have hbl : acc.length + (stepB L[k]).length ≤ 100000 := by
        have := congrArg List.length htr
        rw [List.length_append, List.length_append] at this
        omega
      have HMR := Lib.hid hmr
      have HTR := Lib.hid htr
      clear hat hmr htr hres hmay
      have hE := hE.next hS
      generalize L[k] = x at *
      obtain ⟨⟨a_s, a_p, a_n, ⟨a_v0, a_l0⟩, ⟨a_v1, a_l1⟩, ⟨a_v2, a_l2⟩, ⟨a_v3, a_l3⟩⟩, cl, cs⟩ := x
      obtain ⟨a_c0, a_c1, a_c2, a_c3, a_c4, a_c5, a_c6, a_c7, a_c8, a_c9, a_c10⟩ := (hst.next hS).atom
      obtain ⟨_, k1, sa, sc, k2, hcs⟩ := hst
      have k1' : wr.cell? ⟨b, o + k * 13 + 11, none⟩ = some (.int .i64 cl) := hS.cell k1
      have k2' : wr.cell? ⟨b, o + k * 13 + 12, none⟩ = some (.slice sa cs.length sc) := hS.cell k2
      have hcw : Hid (CiteRow w (.slice sa cs.length sc) cs) := hcs
      have hcs' : CiteRow wr (.slice sa cs.length sc) cs := hcs.next hS
      have hc20 : cs.length ≤ 20 := hlx.2
      clear k1 k2 hcs
      have hA : Since wr (wr.alloc (.cells #[.string ⟨a_s.toArray⟩, .string ⟨a_p.toArray⟩, .int .i64 a_n, .bool a_v0, .string ⟨a_l0.toArray⟩, .bool a_v1, .string ⟨a_l1.toArray⟩, .bool a_v2, .string ⟨a_l2.toArray⟩, .bool a_v3, .string ⟨a_l3.toArray⟩, .int .i64 cl, .slice sa cs.length sc] 39)) := (Since.refl _).alloc _
      have HMY := Lib.hid (may_any a_s a_p a_n a_v0 a_v1 a_v2 a_v3 a_l0 a_l1 a_l2 a_l3 cl (.slice sa cs.length sc) cs k _ hfx (hE.next hA) (hcs'.next hA) (by omega))
      cases hmb : mayB k (((a_s, a_p, a_n, (a_v0, a_l0), (a_v1, a_l1), (a_v2, a_l2), (a_v3, a_l3)) : Atm), cl, cs)
      · rw [hmb] at HMY
        have hmf : Hid (maysB L = false) := by show _ = _; rw [HMR.out, hmb]; rfl
        go_wp2_with fail
        refine HMY.out.mono ?_
        rintro e w4 ⟨rfl, hb⟩
        go_wp2_with fail
        go_ret2
        exact HP2.out _ hmf.out ((hS.trans hA).trans hb)
      · rw [hmb] at HMY
        have hmt : Hid (maysB L = maysF (k + 1) (L.drop (k + 1))) := by show _ = _; rw [HMR.out, hmb]; rfl
        go_wp2_with fail
        refine HMY.out.mono ?_
        rintro e w4 ⟨rfl, hb⟩
        obtain ⟨hck, cl1, cl2, cs16, hcc⟩ := may_cl hmb
        obtain ⟨cn, hcn⟩ : ∃ cn : Nat, cl + 1 = (cn : Int) := ⟨(cl + 1).toNat, by have h : -1 ≤ cl := cl1; omega⟩
        have hcn2 : cn ≤ 65537 := by have h : cl ≤ 65536 := cl2; omega
        have e1 : IntKind.i64.wrap (cl + 1) = cl + 1 := IntWalk.i64_in _ (by omega)
        have e2 : IntKind.u32.wrap (cl + 1) = (cn : Int) := by rw [u32_small (by omega) (by omega)]; exact hcn
        have e3 : IntKind.u32.wrap (cs.length : Int) = (cs.length : Int) := u32_small (by omega) (by omega)
        have k11 : w4.cell? ⟨wr.heap.size, 11, none⟩ = some (.int .i64 cl) := hb.cell (by rw [World.cell?_alloc_new]; rfl)
        have k12 : w4.cell? ⟨wr.heap.size, 12, none⟩ = some (.slice sa cs.length sc) := hb.cell (by rw [World.cell?_alloc_new]; rfl)
        have hbx : Box w4 wr.heap.size ((a_s, a_p, a_n, (a_v0, a_l0), (a_v1, a_l1), (a_v2, a_l2), (a_v3, a_l3)) : Atm) := by
          intro j hj
          refine hb.cell ?_
          rw [World.cell?_alloc_new]
          match j, hj with
          | 0, _ => rfl
          | 1, _ => rfl
          | 2, _ => rfl
          | 3, _ => rfl
          | 4, _ => rfl
          | 5, _ => rfl
          | 6, _ => rfl
          | 7, _ => rfl
          | 8, _ => rfl
          | 9, _ => rfl
          | 10, _ => rfl
        have hsz : w.heap.size ≤ wr.heap.size := hS.size
        have hne := hown.ne (Nat.le_refl wr.heap.size)
        have hS4 := (hS.trans hA).trans hb
        have hown4 := (hown.next hA).next hb
        have hE4 := (hE.next hA).next hb
        obtain ⟨B, hB⟩ : ∃ B, Hid (B = atomB ((a_s, a_p, a_n, (a_v0, a_l0), (a_v1, a_l1), (a_v2, a_l2), (a_v3, a_l3)) : Atm)) := ⟨_, rfl⟩
        have HA : Hid (∀ W, Env W → Calls Tryd.prog 13 #[.agg #[.string ⟨a_s.toArray⟩, .string ⟨a_p.toArray⟩, .int .i64 a_n, .bool a_v0, .string ⟨a_l0.toArray⟩, .bool a_v1, .string ⟨a_l1.toArray⟩, .bool a_v2, .string ⟨a_l2.toArray⟩, .bool a_v3, .string ⟨a_l3.toArray⟩]] W fun e w' => e = .returned (.tuple #[.string ⟨B.toArray⟩, .int .i64 0]) ∧ Since W w') := by
          intro W hEW
          have h := catom_any a_s a_p a_n a_v0 a_v1 a_v2 a_v3 a_l0 a_l1 a_l2 a_l3 W hfx hEW hlx.1
          have hk : certA ((a_s, a_p, a_n, (a_v0, a_l0), (a_v1, a_l1), (a_v2, a_l2), (a_v3, a_l3)) : Atm) = (B, 0) := by rw [certA, if_pos hck, hB.out]
          unfold CertAP at h
          rw [hk] at h
          exact h
        obtain ⟨n1, hn1⟩ : ∃ n1, Hid (n1 = numL cn) := ⟨_, rfl⟩
        obtain ⟨n2, hn2⟩ : ∃ n2, Hid (n2 = numL cs.length) := ⟨_, rfl⟩
        obtain ⟨Y, hY⟩ : ∃ Y, Hid (Y = n1 ++ (B ++ n2)) := ⟨_, rfl⟩
        have hstp : stepB (((a_s, a_p, a_n, (a_v0, a_l0), (a_v1, a_l1), (a_v2, a_l2), (a_v3, a_l3)) : Atm), cl, cs) = Y ++ citesB cs := by
          have e : (cl + 1).toNat = cn := by omega
          show (numL (cl + 1).toNat ++ (atomB ((a_s, a_p, a_n, (a_v0, a_l0), (a_v1, a_l1), (a_v2, a_l2), (a_v3, a_l3)) : Atm) ++ numL cs.length)) ++ citesB cs = _
          rw [hY.out, hn1.out, hn2.out, hB.out, e]
        have hYl : acc.length + Y.length ≤ 100000 := by
          rw [hstp, List.length_append] at hbl
          omega
        have htr2 : T = (acc ++ Y) ++ ((citesB cs) ++ (L.drop (k + 1)).flatMap stepB) := by
          rw [HTR.out, hstp]; simp only [List.append_assoc]
        have HTR2 := Lib.hid htr2
        have HCC : Hid (∀ c ∈ cs, 0 ≤ c ∧ c < k) := hcc
        have HN1 := Lib.hid (fun W => number_any cn W (by omega))
        have HN2 := Lib.hid (fun W => number_any cs.length W (by omega))
        rw [← hn1.out] at HN1
        rw [← hn2.out] at HN2
        have HJ : Hid (∀ W g, Row W (.slice (some ⟨g, 0, none⟩) 3 3) 3 ([n1, B, n2].map strV) → Calls Tryd.prog 28 #[.slice (some ⟨g, 0, none⟩) 3 3] W fun e w' => e = .returned (.string ⟨Y.toArray⟩) ∧ W = w') := by
          intro W g hr
          have e : ([n1, B, n2] : List (List UInt8)).flatten = Y := by rw [hY.out]; simp
          have := cj_any _ [n1, B, n2] W hr (by simp) (by rw [e]; omega)
          rwa [e] at this
        obtain ⟨b_c0, b_c1, b_c2, b_c3, b_c4, b_c5, b_c6, b_c7, b_c8, b_c9, b_c10⟩ := hbx.all
        clear HTR HMY hmb hstp htr2 hcc cl1 cl2 hck hbl hlx hfx hB hn1 hn2 hY hcn hbx a_c0 a_c1 a_c2 a_c3 a_c4 a_c5 a_c6 a_c7 a_c8 a_c9 a_c10 k1' k2' hcs' hown hS hE hA hb
        go_wp2_with fail
        refine (HA.out _ hE4).mono ?_
        rintro e w5 ⟨rfl, hb⟩
        replace k11 := hb.cell k11
        replace k12 := hb.cell k12
        have hown5 := hown4.next hb
        have hS5 := hS4.trans hb
        clear hb hown4 hS4 hE4 b_c0 b_c1 b_c2 b_c3 b_c4 b_c5 b_c6 b_c7 b_c8 b_c9 b_c10
        go_wp2_with fail
        go_region_held3 (fun w' => (w'.cell? ⟨wr.heap.size, 11, none⟩ = some (.int .i64 cl) ∧ w'.cell? ⟨wr.heap.size, 12, none⟩ = some (.slice sa cs.length sc)) ∧ OwnsBytes w' w.heap.size 5 u4 acc ∧ Since w w')
          ((go_split_ands; (refine ⟨⟨?_, ?_⟩, ?_, ?_⟩) <;> (first | assumption | (refine Since.alloc ?_ _; assumption) | (refine Since.cell (Since.alloc (Since.refl _) _) ?_; assumption) | (refine OwnsBytes.next ?_ (Since.alloc (Since.refl _) _); assumption) | (refine Since.drew ?_; assumption) | (refine Since.drew (Since.alloc ?_ _); assumption) | (refine Since.cell (Since.drew (Since.alloc (Since.refl _) _)) ?_; assumption) | (refine OwnsBytes.next ?_ (Since.drew (Since.refl _)); assumption) | (refine OwnsBytes.next ?_ (Since.drew (Since.alloc (Since.refl _) _)); assumption) | (refine Since.cell hb ?_; assumption) | (refine OwnsBytes.next ?_ hb; assumption) | (refine Since.trans ?_ hb; assumption))))
          (first
            | (go_at_call 12; first | ((with_reducible refine (HN1.out _).mono ?_); rintro e w6 ⟨rfl, hb⟩) | ((with_reducible refine (HN2.out _).mono ?_); rintro e w6 ⟨rfl, hb⟩))
            | (go_at_call 28; ((with_reducible refine Calls.mono (HJ.out _ _ ?_) ?_); (first | exact row3_new _ _ _ _ _ | exact (row3_new _ _ _ _ _).next (Since.drew (Since.refl _))); rintro e w6 ⟨rfl, rfl⟩))
            | (go_split_ands; (refine step_append_bytes _ rfl (.tmp 36) (.tmp 49) 52 9 rfl w.heap.size 5 i0 Tryd.underlying52 Tryd.underlying9 HI.out.1 HI.out.2.1 HI.out.2.2.1 HI.out.2.2.2 _ acc Y rfl rfl (by first | assumption | (refine OwnsBytes.next ?_ (Since.drew (Since.refl _)); assumption)) (by omega) (by refine Below.size (B := w.heap.size) (w := w) ?_; first | assumption | (refine Since.drew ?_; assumption)) ?_); intro v' w7 hown7 hold7 hg7; have zS : Since w w7 := since_bytes (base := w.heap.size) (e := 5) (l := acc) (by first | assumption | (refine Since.drew ?_; assumption)) (by first | assumption | (refine OwnsBytes.next ?_ (Since.drew (Since.refl _)); assumption)) (Nat.le_refl _) hg7; have z11 : w7.cell? ⟨wr.heap.size, 11, none⟩ = some (.int .i64 cl) := cell_bytes hg7 hne (by assumption); have z12 : w7.cell? ⟨wr.heap.size, 12, none⟩ = some (.slice sa cs.length sc) := cell_bytes hg7 hne (by assumption)))
        clear hown5 hS5 k11 k12
        go_wp2_with fail
        have hT7 : Hid (T = (acc ++ Y) ++ (citesB (cs.drop 0) ++ (L.drop (k + 1)).flatMap stepB)) := HTR2.out
        clear z11 z12 hb hYl e1 e2 e3 hne HN1 HN2 HJ HA HTR2
        go_loopw [4, 54] (fun u j wq => ∃ (m : Nat) (acc2 : List UInt8), m ≤ cs.length ∧ j = .int .i64 m ∧ OwnsBytes wq w.heap.size 5 u acc2 ∧ Since w wq ∧ Hid (T = acc2 ++ (citesB (cs.drop m) ++ (L.drop (k + 1)).flatMap stepB))) (fun _ j _ => cs.length - (intOf j).toNat)
        case atStart => exact ⟨0, acc ++ Y, by omega, rfl, hown7, zS, hT7⟩
        case round =>
          clear hown7 zS hT7
          obtain ⟨m, acc2, hm, rfl, hownq, hSq, htq⟩ := hrel
          by_cases hmt2 : m < cs.length
          · obtain ⟨bc, oc, cc, hec, _, hcc⟩ := (hcw.out.next hSq).some (by omega)
            cases hec
            have d := hcc m (by simpa using hmt2)
            simp only [List.getElem_map, intV] at d
            obtain ⟨c0, ck⟩ := HCC.out _ (List.getElem_mem hmt2)
            have htr3 : T = (acc2 ++ numL cs[m].toNat) ++ (citesB (cs.drop (m + 1)) ++ (L.drop (k + 1)).flatMap stepB) := by
              have : citesB (cs.drop m) = numL cs[m].toNat ++ citesB (cs.drop (m + 1)) := by rw [citesB, List.drop_eq_getElem_cons hmt2, List.flatMap_cons]; rfl
              rw [htq.out, this]; simp only [List.append_assoc]
            have hl3 : acc2.length + (numL cs[m].toNat).length ≤ 100000 := by
              have := congrArg List.length htr3
              rw [List.length_append, List.length_append] at this
              omega
            have HT3 := Lib.hid htr3
            clear hcc htr3 htq
            generalize cs[m] = q at *
            obtain ⟨qn, hqn⟩ : ∃ qn : Nat, q = (qn : Int) := ⟨q.toNat, by omega⟩
            subst hqn
            rw [Int.toNat_natCast] at hl3 HT3
            have e3 : IntKind.u32.wrap (qn : Int) = (qn : Int) := u32_small (by omega) (by omega)
            have HNQ := Lib.hid (fun W => number_any qn W (by omega))
            generalize numL qn = N at *
            go_wp2_with fail
            refine (HNQ.out _).mono ?_
            rintro e w8 ⟨rfl, hb8⟩
            have hown8 := hownq.next hb8
            have hS8 := hSq.trans hb8
            go_wp2_with (at_builtin; refine wpList_append_bytes _ rfl (.tmp 58) (.tmp 61) 52 9 rfl w.heap.size 5 i0 Tryd.underlying52 Tryd.underlying9 HI.out.1 HI.out.2.1 HI.out.2.2.1 HI.out.2.2.2 _ acc2 N rfl rfl hown8 (by omega) (Below.size (B := w.heap.size) (w := w) hS8) ?_; intro v9 w9 hown9 _ hg9; have hS9 := since_bytes hS8 hown8 (Nat.le_refl _) hg9)
            go_roundw
            case rel => exact ⟨m + 1, acc2 ++ N, by omega, by go_num, hown9, hS9, HT3.out⟩
            case measure => simp [intOf]; omega
          · obtain rfl : m = cs.length := by omega
            have hd : cs.drop cs.length = [] := List.drop_length
            have hT9 : Hid (T = acc2 ++ (L.drop (k + 1)).flatMap stepB) := by
              show _ = _
              have := htq.out
              rw [hd] at this
              exact this
            clear htq
            go_wp2_with fail
            go_roundw
            case rel => exact ⟨k + 1, acc2, by omega, by go_num, hownq, hSq, hT9, hmt⟩
            case measure => simp [intOf]; omega
    · obtain rfl : k = L.length := by omega
      have hd : L.drop L.length = [] := List.drop_length
      have hacc : acc = T := by rw [hres.out, hd]; simp
      have hmt : maysB L = true := by rw [hmay.out, hd]; rfl
      subst hacc
      have hcv := conv_row hown.row rfl
      clear hmay hres
      go_wp2_with fail
      go_ret2
      exact HP1.out _ hmt hS
theorem bytes_any (v : Value) (L : List Stp) (w : World) (hv : StpRow w v L) (hE : Env w) (hL : LightS L) (hF : FitsS L) :
    Calls Tryd.prog 11 #[v] w (CertBP L w) := bytesW_any v L w hv hE hL.w hF
end Go.Proofs.YtiadjmfdahendaaDoor
