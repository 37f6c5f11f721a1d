/- check: Check. -/
import Derived.Test.YtdlnmkdbjgbimaaGreatDoorCkG
namespace Go.Proofs.YtdlnmkdbjgbimaaGreatDoor
open Go.RowKit

def goalsS (H : List Atm) : List Atm → Nat → Option Nat
  | [], _ => none
  | g :: r, i => if decide (g ∈ H) then goalsS H r (i + 1) else some i
def looseS (W : List Atm) (C : List Int) : List Stp → Nat → Option Nat
  | [], _ => none
  | s :: r, i => if decide (s.1 ∈ W) || !(decide ((C[i]?).getD 0 = 0)) then looseS W C r (i + 1) else some i
/-- What Check answers. -/
def checkS (L : List Cls) (F : List Atm) (T : List Stp) (G : List Atm) : Int × Int :=
  if (soundS L F T).2 = 0 then
    match goalsS (T.map fun t => t.1) G 0 with
    | some i => ((i : Int), 13)
    | none => match looseS G (citedS T) T 0 with
      | some i => ((i : Int), 15)
      | none => (0, 0)
  else soundS L F T
def afterS (o : Option Nat) (e : Int) (r : Int × Int) : Int × Int := match o with | some i => ((i : Int), e) | none => r
theorem checkS_eq (L : List Cls) (F : List Atm) (T : List Stp) (G : List Atm) : checkS L F T G = if (soundS L F T).2 = 0 then afterS (goalsS (T.map fun t => t.1) G 0) 13 (afterS (looseS G (citedS T) T 0) 15 (0, 0)) else soundS L F T := by
  unfold checkS afterS
  rfl
set_option maxHeartbeats 8000000 in
set_option maxRecDepth 100000 in
theorem kcheck_any (va : Option Addr) (lc : Nat) (L : List Cls) (vf : Option Addr) (fc : Nat) (F : List Atm) (vs : Option Addr) (tc : Nat) (T : List Stp) (vg : Option Addr) (gc : Nat) (G : List Atm) (w : World)
    (hv : RRow w (.slice va L.length lc) L) (hf : ARow w (.slice vf F.length fc) F) (ht : SRow w (.slice vs T.length tc) T) (hg : ARow w (.slice vg G.length gc) G) (hkb : L.length ≤ 100000) (hmf : F.length ≤ 100000) (htb : T.length ≤ 1000000) (hmg : G.length ≤ 1000000)
    (hb9 : ∀ c ∈ L, c.2.length ≤ 100) (hFL : ∀ c ∈ L, FitsC c) (hFF : ∀ a ∈ F, FitsN a) (hFG : ∀ a ∈ G, FitsN a) (hfT : ∀ t ∈ T, FitsN t.1 ∧ t.2.2.length ≤ 100000) (hE : Env w) :
    Calls Tryz.prog 9 #[.slice va L.length lc, .slice vf F.length fc, .slice vs T.length tc, .slice vg G.length gc] w fun e w' => e = .returned (.tuple #[.int .i64 (checkS L F T G).1, .int .i64 (checkS L F T G).2]) ∧ Since w w' := by
  have HS := Lib.hid (ksound_main va lc L vf fc F vs tc T w hv hf ht hkb hmf htb hb9 hFL hFF hfT hE)
  have HC := Lib.hid (fun W (hW : Since w W) => kcited_any vs tc T W (snext ht hW) htb (fun t h => (hfT t h).2))
  have HT := Lib.hid ht
  have HG := Lib.hid hg
  have HFT := Lib.hid hfT
  have HFG := Lib.hid hFG
  have HTB := Lib.hid htb
  have HMG := Lib.hid hmg
  obtain ⟨R, hR⟩ : ∃ R, Hid (R = checkS L F T G) := ⟨_, rfl⟩
  rw [← hR.out]
  obtain ⟨at0, er, hat⟩ : ∃ x y, Hid ((x, y) = soundS L F T) := ⟨_, _, rfl⟩
  rw [← hat.out] at HS
  simp only at HS
  have hR1 : Hid (R = if er = 0 then afterS (goalsS (T.map fun t => t.1) G 0) 13 (afterS (looseS G (citedS T) T 0) 15 (0, 0)) else (at0, er)) := by
    show _ = _
    rw [hR.out, checkS_eq, ← hat.out]
  have hmk := @run_makeMap Tryz.prog
  clear hv hf ht hg hFL hFF hFG hfT hb9 hE hR hat htb hmg
  go_enter Tryz.func9, Tryz.ntmps9
  by_cases he0 : er = 0
  case neg =>
    have hRf : R = (at0, er) := by rw [hR1.out, if_neg he0]
    have heq : (er != 0) = true := by simpa using he0
    subst hRf
    clear hR1 hmk
    go_wp2_with fail
    refine HS.out.mono ?_
    rintro e w2 ⟨rfl, hb⟩
    go_wp2_with fail
    go_ret2
    exact ⟨rfl, hb⟩
  case pos =>
    subst he0
    obtain ⟨R2, hR2⟩ : ∃ R2, Hid (R2 = afterS (looseS G (citedS T) T 0) 15 (0, 0)) := ⟨_, rfl⟩
    have hR3 : Hid (R = afterS (goalsS (T.map fun t => t.1) G 0) 13 R2) := by show _ = _; rw [hR1.out, if_pos rfl, hR2.out]
    clear hR1
    go_wp2_with fail
    refine HS.out.mono ?_
    rintro e w2 ⟨rfl, hb⟩
    have hs0 : ASet (w2.alloc (.map #[] 0)) w2.heap.size 0 [] := aset_made w2
    have hS0 : Since w (w2.alloc (.map #[] 0)) := hb.alloc _
    have hmw : w.heap.size ≤ w2.heap.size := hb.size
    clear HS hb
    go_upto_region 5 with (fail)
    generalize hw3 : w2.alloc (.map #[] 0) = w3 at *
    generalize hmb : w2.heap.size = mb at *
    clear hw3 hmb
    go_wp2_with fail
    go_loopw [39] (fun i wr => ∃ k : Nat, k ≤ T.length ∧ i = .int .i64 (k : Int) ∧ Since w wr ∧ ASet wr mb k ((T.take k).map fun t => t.1)) (fun i _ => T.length - (intOf i).toNat)
    case atStart => exact ⟨0, by omega, rfl, hS0, by simpa using hs0⟩
    case round =>
      clear hs0 hS0
      obtain ⟨k, hk, rfl, hS, hset⟩ := hrel
      by_cases hlt : k < T.length
      · have hki : (k : Int) < (T.length : Int) := by omega
        have hfx := (HFT.out _ (List.getElem_mem hlt)).1
        have hnx : (T.take (k + 1)).map (fun t => t.1) = (T.take k).map (fun t => t.1) ++ [(T[k]).1] := by rw [List.take_succ_eq_append_getElem hlt, List.map_append]; rfl
        obtain ⟨bs, os, rfl, hcs, hats⟩ := (snext HT.out hS).get (by omega)
        obtain ⟨e1, e2, u, e3, e4⟩ := hats k hlt
        obtain ⟨s, hs⟩ : ∃ s, Hid (s = T[k]) := ⟨T[k], rfl⟩
        rw [← hs.out] at e1 e2 e4 hfx hnx
        obtain ⟨⟨x_s, x_p, x_n, ⟨x_v0, x_l0⟩, ⟨x_v1, x_l1⟩, ⟨x_v2, x_l2⟩, ⟨x_v3, x_l3⟩⟩, c, V⟩ := s
        obtain ⟨sa, sc, rfl⟩ := e4.slice
        simp only at e1 e2 e3 hfx hnx
        obtain ⟨x_c0, x_c1, x_c2, x_c3, x_c4, x_c5, x_c6, x_c7, x_c8, x_c9, x_c10⟩ := e1.all
        have hSx : Since wr (wr.alloc (.cells #[.string ⟨x_s.toArray⟩, .string ⟨x_p.toArray⟩, .int .i64 x_n, .bool x_v0, .string ⟨x_l0.toArray⟩, .bool x_v1, .string ⟨x_l1.toArray⟩, .bool x_v2, .string ⟨x_l2.toArray⟩, .bool x_v3, .string ⟨x_l3.toArray⟩, .int .i64 c, .slice sa V.length sc] 49)) := (Since.refl wr).alloc _
        have hbx : Cel (wr.alloc (.cells #[.string ⟨x_s.toArray⟩, .string ⟨x_p.toArray⟩, .int .i64 x_n, .bool x_v0, .string ⟨x_l0.toArray⟩, .bool x_v1, .string ⟨x_l1.toArray⟩, .bool x_v2, .string ⟨x_l2.toArray⟩, .bool x_v3, .string ⟨x_l3.toArray⟩, .int .i64 c, .slice sa V.length sc] 49)) wr.heap.size #[.string ⟨x_s.toArray⟩, .string ⟨x_p.toArray⟩, .int .i64 x_n, .bool x_v0, .string ⟨x_l0.toArray⟩, .bool x_v1, .string ⟨x_l1.toArray⟩, .bool x_v2, .string ⟨x_l2.toArray⟩, .bool x_v3, .string ⟨x_l3.toArray⟩, .int .i64 c, .slice sa V.length sc] 49 := heap_alloc_new wr _
        have x_B : Box (wr.alloc (.cells #[.string ⟨x_s.toArray⟩, .string ⟨x_p.toArray⟩, .int .i64 x_n, .bool x_v0, .string ⟨x_l0.toArray⟩, .bool x_v1, .string ⟨x_l1.toArray⟩, .bool x_v2, .string ⟨x_l2.toArray⟩, .bool x_v3, .string ⟨x_l3.toArray⟩, .int .i64 c, .slice sa V.length sc] 49)) wr.heap.size ((x_s, x_p, x_n, (x_v0, x_l0), (x_v1, x_l1), (x_v2, x_l2), (x_v3, x_l3)) : Atm) := box_at (l := [_, _]) hbx.at
        have hset2 := hset.next hSx
        have hS2 := hS.trans hSx
        have HNX := Lib.hid hnx
        have HFX := Lib.hid hfx
        clear hset hats hcs e4 hs hnx hfx
        go_upto_region 8 with (fail)
        generalize hw2 : wr.alloc (.cells #[.string ⟨x_s.toArray⟩, .string ⟨x_p.toArray⟩, .int .i64 x_n, .bool x_v0, .string ⟨x_l0.toArray⟩, .bool x_v1, .string ⟨x_l1.toArray⟩, .bool x_v2, .string ⟨x_l2.toArray⟩, .bool x_v3, .string ⟨x_l3.toArray⟩, .int .i64 c, .slice sa V.length sc] 49) = w4 at *
        clear hw2 hbx e1 e2 e3 hSx x_c0 x_c1 x_c2 x_c3 x_c4 x_c5 x_c6 x_c7 x_c8 x_c9 x_c10
        obtain ⟨x_c0, x_c1, x_c2, x_c3, x_c4, x_c5, x_c6, x_c7, x_c8, x_c9, x_c10⟩ := x_B.all
        have htb := HTB.out
        go_wp2_with (refine aupdate _ rfl _ _ _ rfl mb k _ rfl hset2 (by unfold maxLen; omega) (x := ((x_s, x_p, x_n, (x_v0, x_l0), (x_v1, x_l1), (x_v2, x_l2), (x_v3, x_l3)) : Atm)) HFX.out rfl rfl ?_; intro w5 hset5 hgrow)
        have hS5 := since_upd hS2 hgrow hmw
        rw [← HNX.out] at hset5
        clear hset2 hgrow x_c0 x_c1 x_c2 x_c3 x_c4 x_c5 x_c6 x_c7 x_c8 x_c9 x_c10 x_B
        go_roundw
        case rel => exact ⟨k + 1, by omega, by go_num, hS5, hset5⟩
        case measure => simp [intOf]; omega
      · have hki : ¬ (k : Int) < (T.length : Int) := by omega
        rw [List.take_of_length_le (by omega)] at hset
        obtain ⟨H, hH⟩ : ∃ H, Hid (H = T.map fun t => t.1) := ⟨_, rfl⟩
        rw [← hH.out] at hset hR3
        have hHF : ∀ y ∈ H, FitsN y := by
          intro y hy
          rw [hH.out] at hy
          obtain ⟨t, ht, rfl⟩ := List.mem_map.1 hy
          exact (HFT.out t ht).1
        have HHF := Lib.hid hHF
        have hblt : mb < wr.heap.size := hset.lt
        have hg0 : ASet (wr.alloc (.map #[] 0)) wr.heap.size 0 [] := aset_made wr
        have hset0 := hset.next ((Since.refl wr).alloc (.map #[] 0))
        have hS0 : Since w (wr.alloc (.map #[] 0)) := hS.alloc _
        have hgw : w.heap.size ≤ wr.heap.size := hS.size
        clear hset hS hHF hH
        go_upto_region 11 with (fail)
        generalize hw5 : wr.alloc (.map #[] 0) = w5 at *
        generalize hmg : wr.heap.size = mg at *
        clear hw5 hmg
        go_wp2_with fail
        go_loopw [51] (fun i wr => ∃ k : Nat, k ≤ G.length ∧ i = .int .i64 (k : Int) ∧ Since w wr ∧ (∃ n, ASet wr mb n H) ∧ ASet wr mg k (G.take k) ∧ Hid (R = afterS (goalsS H (G.drop k) k) 13 R2)) (fun i _ => G.length - (intOf i).toNat)
        case atStart => exact ⟨0, by omega, rfl, hS0, ⟨_, hset0⟩, by simpa using hg0, hR3⟩
        case round =>
          clear hset0 hg0 hS0 hR3
          obtain ⟨j, hj, rfl, hS, ⟨n, hset⟩, hwant, hres⟩ := hrel
          by_cases hjl : j < G.length
          · have hji : (j : Int) < (G.length : Int) := by omega
            have hfx := HFG.out _ (List.getElem_mem hjl)
            have hnx : G.take (j + 1) = G.take j ++ [G[j]] := List.take_succ_eq_append_getElem hjl
            rw [List.drop_eq_getElem_cons hjl, goalsS] at hres
            obtain ⟨bg, og, rfl, hcs, hats⟩ := (anext HG.out hS).get (by omega)
            have e1 := hats j hjl
            obtain ⟨x, hx⟩ : ∃ x, Hid (x = G[j]) := ⟨G[j], rfl⟩
            rw [← hx.out] at e1 hfx hnx hres
            obtain ⟨TW, hTW⟩ : ∃ B, Hid (decide (x ∈ H) = B) := ⟨_, rfl⟩
            rw [hTW.out] at hres
            have HRES := Lib.hid hres
            obtain ⟨x_s, x_p, x_n, ⟨x_v0, x_l0⟩, ⟨x_v1, x_l1⟩, ⟨x_v2, x_l2⟩, ⟨x_v3, x_l3⟩⟩ := x
            obtain ⟨x_c0, x_c1, x_c2, x_c3, x_c4, x_c5, x_c6, x_c7, x_c8, x_c9, x_c10⟩ := e1.all
            have hSx : Since wr (wr.alloc (.cells #[.string ⟨x_s.toArray⟩, .string ⟨x_p.toArray⟩, .int .i64 x_n, .bool x_v0, .string ⟨x_l0.toArray⟩, .bool x_v1, .string ⟨x_l1.toArray⟩, .bool x_v2, .string ⟨x_l2.toArray⟩, .bool x_v3, .string ⟨x_l3.toArray⟩] 29)) := (Since.refl wr).alloc _
            have x_B : Box (wr.alloc (.cells #[.string ⟨x_s.toArray⟩, .string ⟨x_p.toArray⟩, .int .i64 x_n, .bool x_v0, .string ⟨x_l0.toArray⟩, .bool x_v1, .string ⟨x_l1.toArray⟩, .bool x_v2, .string ⟨x_l2.toArray⟩, .bool x_v3, .string ⟨x_l3.toArray⟩] 29)) wr.heap.size ((x_s, x_p, x_n, (x_v0, x_l0), (x_v1, x_l1), (x_v2, x_l2), (x_v3, x_l3)) : Atm) := box_new wr _ _
            have hset2 := hset.next hSx
            have hwant2 := hwant.next hSx
            have hS2 := hS.trans hSx
            have HNX := Lib.hid hnx
            have HFX := Lib.hid hfx
            have hmbg : mb ≠ mg := by omega
            clear hset hwant hats hcs hx hnx hfx hres hS
            go_upto_region 14 with (fail)
            generalize hw2 : wr.alloc (.cells #[.string ⟨x_s.toArray⟩, .string ⟨x_p.toArray⟩, .int .i64 x_n, .bool x_v0, .string ⟨x_l0.toArray⟩, .bool x_v1, .string ⟨x_l1.toArray⟩, .bool x_v2, .string ⟨x_l2.toArray⟩, .bool x_v3, .string ⟨x_l3.toArray⟩] 29) = w6 at *
            clear hw2 e1 hSx x_c0 x_c1 x_c2 x_c3 x_c4 x_c5 x_c6 x_c7 x_c8 x_c9 x_c10
            obtain ⟨x_c0, x_c1, x_c2, x_c3, x_c4, x_c5, x_c6, x_c7, x_c8, x_c9, x_c10⟩ := x_B.all
            have hS3 : Since w (w6.alloc (.cells #[] 51)) := hS2.alloc _
            have hset3 := hset2.next ((Since.refl w6).alloc (.cells #[] 51))
            have hwant3 := hwant2.next ((Since.refl w6).alloc (.cells #[] 51))
            have x_B3 := x_B.next ((Since.refl w6).alloc (.cells #[] 51))
            have hbd := HMG.out
            cases TW
            · have hRf : R = ((j : Int), 13) := HRES.out
              clear HRES hset3 hwant3
              subst hRf
              go_wp2_with (refine alookup _ rfl _ _ rfl mb n H rfl hset2 HHF.out (x := ((x_s, x_p, x_n, (x_v0, x_l0), (x_v1, x_l1), (x_v2, x_l2), (x_v3, x_l3)) : Atm)) HFX.out rfl false hTW.out ?_)
              go_ret2
              exact ⟨rfl, hS3⟩
            · have hres4 : Hid (R = afterS (goalsS H (G.drop (j + 1)) (j + 1)) 13 R2) := HRES.out
              clear HRES
              go_upto_region 15 with (refine alookup _ rfl _ _ rfl mb n H rfl hset2 HHF.out (x := ((x_s, x_p, x_n, (x_v0, x_l0), (x_v1, x_l1), (x_v2, x_l2), (x_v3, x_l3)) : Atm)) HFX.out rfl true hTW.out ?_)
              generalize hw7 : w6.alloc (.cells #[] 51) = w7 at *
              clear hw7 hset2 hwant2 hS2 x_B x_c0 x_c1 x_c2 x_c3 x_c4 x_c5 x_c6 x_c7 x_c8 x_c9 x_c10
              obtain ⟨x_c0, x_c1, x_c2, x_c3, x_c4, x_c5, x_c6, x_c7, x_c8, x_c9, x_c10⟩ := x_B3.all
              go_wp2_with (refine aupdate _ rfl _ _ _ rfl mg j _ rfl hwant3 (by unfold maxLen; omega) (x := ((x_s, x_p, x_n, (x_v0, x_l0), (x_v1, x_l1), (x_v2, x_l2), (x_v3, x_l3)) : Atm)) HFX.out rfl rfl ?_; intro w8 hwant8 hgrow)
              have hS8 := since_upd hS3 hgrow hgw
              have hset8 := hset3.far hgrow (fun e => by injection e with e; omega)
              rw [← HNX.out] at hwant8
              clear hset3 hwant3 hgrow x_c0 x_c1 x_c2 x_c3 x_c4 x_c5 x_c6 x_c7 x_c8 x_c9 x_c10 x_B3
              go_roundw
              case rel => exact ⟨j + 1, by omega, by go_num, hS8, ⟨_, hset8⟩, hwant8, hres4⟩
              case measure => simp [intOf]; omega
          · have hji : ¬ (j : Int) < (G.length : Int) := by omega
            rw [List.drop_eq_nil_of_le (by omega)] at hres
            rw [List.take_of_length_le (by omega)] at hwant
            have hR4 : Hid (R = afterS (looseS G (citedS T) T 0) 15 (0, 0)) := by show _ = _; rw [hres.out, ← hR2.out]; rfl
            have HC9 := Lib.hid (HC.out wr hS)
            clear hres hR2 hset
            go_wp2_with fail
            refine HC9.out.mono ?_
            rintro e w9 ⟨q, rfl, hq, hqs, hb⟩
            have hS9 := hS.trans hb
            have hwant9 := hwant.next hb
            have hCl : (citedS T).length = T.length := by unfold citedS; rw [bumps_len, List.length_replicate]
            obtain ⟨C, hC⟩ : ∃ C, Hid (C = citedS T) := ⟨_, rfl⟩
            rw [← hC.out] at hq hR4 hCl
            clear hwant hS hb hC HC9
            go_wp2_with fail
            go_loopw [73] (fun i wr => ∃ k : Nat, k ≤ T.length ∧ i = .int .i64 (k : Int) ∧ Since w9 wr ∧ Hid (R = afterS (looseS G C (T.drop k) k) 15 (0, 0))) (fun i _ => T.length - (intOf i).toNat)
            case atStart => exact ⟨0, by omega, rfl, Since.refl _, by rw [List.drop_zero]; exact hR4⟩
            case round =>
              clear hR4
              obtain ⟨k, hk, rfl, hS, hres⟩ := hrel
              have hSw := hS9.trans hS
              have htb3 := HTB.out
              by_cases hlt : k < T.length
              · have hki : (k : Int) < (T.length : Int) := by omega
                have hfx := (HFT.out _ (List.getElem_mem hlt)).1
                rw [List.drop_eq_getElem_cons hlt, looseS] at hres
                obtain ⟨bs, os, rfl, hcs, hats⟩ := (snext HT.out hSw).get (by omega)
                obtain ⟨e1, e2, u, e3, e4⟩ := hats k hlt
                obtain ⟨s, hs⟩ : ∃ s, Hid (s = T[k]) := ⟨T[k], rfl⟩
                rw [← hs.out] at e1 e2 e4 hfx hres
                obtain ⟨⟨x_s, x_p, x_n, ⟨x_v0, x_l0⟩, ⟨x_v1, x_l1⟩, ⟨x_v2, x_l2⟩, ⟨x_v3, x_l3⟩⟩, c, V⟩ := s
                obtain ⟨sa, sc, rfl⟩ := e4.slice
                simp only at e1 e2 e3 hfx hres
                obtain ⟨x_c0, x_c1, x_c2, x_c3, x_c4, x_c5, x_c6, x_c7, x_c8, x_c9, x_c10⟩ := e1.all
                obtain ⟨TW, hTW⟩ : ∃ B, Hid (decide (((x_s, x_p, x_n, (x_v0, x_l0), (x_v1, x_l1), (x_v2, x_l2), (x_v3, x_l3)) : Atm) ∈ G) = B) := ⟨_, rfl⟩
                obtain ⟨z, hz⟩ : ∃ z, Hid (z = (C[k]?).getD 0) := ⟨_, rfl⟩
                have hgz := intsC_get C (m := k) (by omega)
                rw [← hz.out] at hgz hres
                rw [hTW.out] at hres
                have HRES := Lib.hid hres
                have hSx : Since wr (wr.alloc (.cells #[.string ⟨x_s.toArray⟩, .string ⟨x_p.toArray⟩, .int .i64 x_n, .bool x_v0, .string ⟨x_l0.toArray⟩, .bool x_v1, .string ⟨x_l1.toArray⟩, .bool x_v2, .string ⟨x_l2.toArray⟩, .bool x_v3, .string ⟨x_l3.toArray⟩, .int .i64 c, .slice sa V.length sc] 49)) := (Since.refl wr).alloc _
                have hbx : Cel (wr.alloc (.cells #[.string ⟨x_s.toArray⟩, .string ⟨x_p.toArray⟩, .int .i64 x_n, .bool x_v0, .string ⟨x_l0.toArray⟩, .bool x_v1, .string ⟨x_l1.toArray⟩, .bool x_v2, .string ⟨x_l2.toArray⟩, .bool x_v3, .string ⟨x_l3.toArray⟩, .int .i64 c, .slice sa V.length sc] 49)) wr.heap.size #[.string ⟨x_s.toArray⟩, .string ⟨x_p.toArray⟩, .int .i64 x_n, .bool x_v0, .string ⟨x_l0.toArray⟩, .bool x_v1, .string ⟨x_l1.toArray⟩, .bool x_v2, .string ⟨x_l2.toArray⟩, .bool x_v3, .string ⟨x_l3.toArray⟩, .int .i64 c, .slice sa V.length sc] 49 := heap_alloc_new wr _
                have x_B : Box (wr.alloc (.cells #[.string ⟨x_s.toArray⟩, .string ⟨x_p.toArray⟩, .int .i64 x_n, .bool x_v0, .string ⟨x_l0.toArray⟩, .bool x_v1, .string ⟨x_l1.toArray⟩, .bool x_v2, .string ⟨x_l2.toArray⟩, .bool x_v3, .string ⟨x_l3.toArray⟩, .int .i64 c, .slice sa V.length sc] 49)) wr.heap.size ((x_s, x_p, x_n, (x_v0, x_l0), (x_v1, x_l1), (x_v2, x_l2), (x_v3, x_l3)) : Atm) := box_at (l := [_, _]) hbx.at
                have hwant2 := (hwant9.next hS).next hSx
                have hq2 := (hq.next hS).next hSx
                have hS2 := hS.trans hSx
                have HFX := Lib.hid hfx
                clear hats hcs e4 hs hfx hres hS hz
                go_upto_region 23 with (fail)
                generalize hw2 : wr.alloc (.cells #[.string ⟨x_s.toArray⟩, .string ⟨x_p.toArray⟩, .int .i64 x_n, .bool x_v0, .string ⟨x_l0.toArray⟩, .bool x_v1, .string ⟨x_l1.toArray⟩, .bool x_v2, .string ⟨x_l2.toArray⟩, .bool x_v3, .string ⟨x_l3.toArray⟩, .int .i64 c, .slice sa V.length sc] 49) = w4 at *
                clear hw2 hbx e1 e2 e3 hSx x_c0 x_c1 x_c2 x_c3 x_c4 x_c5 x_c6 x_c7 x_c8 x_c9 x_c10
                obtain ⟨x_c0, x_c1, x_c2, x_c3, x_c4, x_c5, x_c6, x_c7, x_c8, x_c9, x_c10⟩ := x_B.all
                have hS3 : Since w9 (w4.alloc (.cells #[] 51)) := hS2.alloc _
                have hq3 := hq2.next ((Since.refl w4).alloc (.cells #[] 51))
                go_upto_region 24 with (refine alookup _ rfl _ _ rfl mg j G rfl hwant2 HFG.out (x := ((x_s, x_p, x_n, (x_v0, x_l0), (x_v1, x_l1), (x_v2, x_l2), (x_v3, x_l3)) : Atm)) HFX.out rfl TW hTW.out ?_)
                generalize hw7 : w4.alloc (.cells #[] 51) = w7 at *
                have c7 : w7.cell? ⟨q, k, none⟩ = some (.int .i64 z) := (hq3.cell k).trans hgz
                clear hw7 hwant2 hq2 hS2 x_B x_c0 x_c1 x_c2 x_c3 x_c4 x_c5 x_c6 x_c7 x_c8 x_c9 x_c10 hTW hq3
                cases TW
                · by_cases hz0 : z = 0
                  · subst hz0
                    have hRf : R = ((k : Int), 15) := HRES.out
                    clear HRES
                    subst hRf
                    go_wp2_with fail
                    go_ret2
                    exact ⟨rfl, hS9.trans hS3⟩
                  · have hzb : (z == 0) = false := by simpa using hz0
                    have hres4 : Hid (R = afterS (looseS G C (T.drop (k + 1)) (k + 1)) 15 (0, 0)) := by
                      show _ = _
                      have h := HRES.out
                      rw [decide_eq_false hz0] at h
                      exact h
                    clear HRES
                    go_wp2_with fail
                    go_roundw
                    case rel => exact ⟨k + 1, by omega, by go_num, hS3, hres4⟩
                    case measure => simp [intOf]; omega
                · have hres4 : Hid (R = afterS (looseS G C (T.drop (k + 1)) (k + 1)) 15 (0, 0)) := by
                    show _ = _
                    have h := HRES.out
                    rw [Bool.true_or, if_pos rfl] at h
                    exact h
                  clear HRES c7
                  go_wp2_with fail
                  go_roundw
                  case rel => exact ⟨k + 1, by omega, by go_num, hS3, hres4⟩
                  case measure => simp [intOf]; omega
              · have hki : ¬ (k : Int) < (T.length : Int) := by omega
                have hRf : R = (0, 0) := by rw [hres.out, List.drop_eq_nil_of_le (by omega)]; rfl
                subst hRf
                clear hres
                go_wp2_with fail
                go_ret2
                exact ⟨rfl, hSw⟩
end Go.Proofs.YtdlnmkdbjgbimaaGreatDoor
