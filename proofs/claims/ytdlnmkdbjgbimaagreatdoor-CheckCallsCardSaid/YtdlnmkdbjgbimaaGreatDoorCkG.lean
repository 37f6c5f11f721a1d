/- check: Accepts. check: Cited. -/
import Derived.Test.YtdlnmkdbjgbimaaGreatDoorCkF
namespace Go.Proofs.YtdlnmkdbjgbimaaGreatDoor
open Go.RowKit
attribute [local go_sem ↓] run_atomEq

set_option maxHeartbeats 4000000 in
set_option maxRecDepth 100000 in
theorem kacc1_any (x_s x_p : List UInt8) (x_n : Int) (x_v0 x_v1 x_v2 x_v3 : Bool) (x_l0 x_l1 x_l2 x_l3 : List UInt8) (c : Int) (sa : Option Addr) (n sc g : Nat) (a_s a_p : List UInt8) (a_n : Int) (a_v0 a_v1 a_v2 a_v3 : Bool) (a_l0 a_l1 a_l2 a_l3 : List UInt8) (w : World) (hB : Box w g ((a_s, a_p, a_n, (a_v0, a_l0), (a_v1, a_l1), (a_v2, a_l2), (a_v3, a_l3)) : Atm)) :
    Calls Tryz.prog 26 #[.agg #[.string ⟨x_s.toArray⟩, .string ⟨x_p.toArray⟩, .int .i64 x_n, .bool x_v0, .string ⟨x_l0.toArray⟩, .bool x_v1, .string ⟨x_l1.toArray⟩, .bool x_v2, .string ⟨x_l2.toArray⟩, .bool x_v3, .string ⟨x_l3.toArray⟩, .int .i64 c, .slice sa n sc], .pointer (some ⟨g, 0, none⟩)] w fun e w' => e = .returned (.bool (eqA ((x_s, x_p, x_n, (x_v0, x_l0), (x_v1, x_l1), (x_v2, x_l2), (x_v3, x_l3)) : Atm) ((a_s, a_p, a_n, (a_v0, a_l0), (a_v1, a_l1), (a_v2, a_l2), (a_v3, a_l3)) : Atm))) ∧ Since w w' := by
  have hS : Since w (w.alloc (.cells #[.string ⟨x_s.toArray⟩, .string ⟨x_p.toArray⟩, .int .i64 x_n, .bool x_v0, .string ⟨x_l0.toArray⟩, .bool x_v1, .string ⟨x_l1.toArray⟩, .bool x_v2, .string ⟨x_l2.toArray⟩, .bool x_v3, .string ⟨x_l3.toArray⟩, .int .i64 c, .slice sa n sc] 49)) := (Since.refl w).alloc _
  have hC : Cel (w.alloc (.cells #[.string ⟨x_s.toArray⟩, .string ⟨x_p.toArray⟩, .int .i64 x_n, .bool x_v0, .string ⟨x_l0.toArray⟩, .bool x_v1, .string ⟨x_l1.toArray⟩, .bool x_v2, .string ⟨x_l2.toArray⟩, .bool x_v3, .string ⟨x_l3.toArray⟩, .int .i64 c, .slice sa n sc] 49)) w.heap.size #[.string ⟨x_s.toArray⟩, .string ⟨x_p.toArray⟩, .int .i64 x_n, .bool x_v0, .string ⟨x_l0.toArray⟩, .bool x_v1, .string ⟨x_l1.toArray⟩, .bool x_v2, .string ⟨x_l2.toArray⟩, .bool x_v3, .string ⟨x_l3.toArray⟩, .int .i64 c, .slice sa n sc] 49 := heap_alloc_new w _
  have c0 : (w.alloc (.cells #[.string ⟨x_s.toArray⟩, .string ⟨x_p.toArray⟩, .int .i64 x_n, .bool x_v0, .string ⟨x_l0.toArray⟩, .bool x_v1, .string ⟨x_l1.toArray⟩, .bool x_v2, .string ⟨x_l2.toArray⟩, .bool x_v3, .string ⟨x_l3.toArray⟩, .int .i64 c, .slice sa n sc] 49)).cell? ⟨w.heap.size, 0, none⟩ = some (.string ⟨x_s.toArray⟩) := hC.cell 0
  have c1 : (w.alloc (.cells #[.string ⟨x_s.toArray⟩, .string ⟨x_p.toArray⟩, .int .i64 x_n, .bool x_v0, .string ⟨x_l0.toArray⟩, .bool x_v1, .string ⟨x_l1.toArray⟩, .bool x_v2, .string ⟨x_l2.toArray⟩, .bool x_v3, .string ⟨x_l3.toArray⟩, .int .i64 c, .slice sa n sc] 49)).cell? ⟨w.heap.size, 1, none⟩ = some (.string ⟨x_p.toArray⟩) := hC.cell 1
  have c2 : (w.alloc (.cells #[.string ⟨x_s.toArray⟩, .string ⟨x_p.toArray⟩, .int .i64 x_n, .bool x_v0, .string ⟨x_l0.toArray⟩, .bool x_v1, .string ⟨x_l1.toArray⟩, .bool x_v2, .string ⟨x_l2.toArray⟩, .bool x_v3, .string ⟨x_l3.toArray⟩, .int .i64 c, .slice sa n sc] 49)).cell? ⟨w.heap.size, 2, none⟩ = some (.int .i64 x_n) := hC.cell 2
  have c3 : (w.alloc (.cells #[.string ⟨x_s.toArray⟩, .string ⟨x_p.toArray⟩, .int .i64 x_n, .bool x_v0, .string ⟨x_l0.toArray⟩, .bool x_v1, .string ⟨x_l1.toArray⟩, .bool x_v2, .string ⟨x_l2.toArray⟩, .bool x_v3, .string ⟨x_l3.toArray⟩, .int .i64 c, .slice sa n sc] 49)).cell? ⟨w.heap.size, 3, none⟩ = some (.bool x_v0) := hC.cell 3
  have c4 : (w.alloc (.cells #[.string ⟨x_s.toArray⟩, .string ⟨x_p.toArray⟩, .int .i64 x_n, .bool x_v0, .string ⟨x_l0.toArray⟩, .bool x_v1, .string ⟨x_l1.toArray⟩, .bool x_v2, .string ⟨x_l2.toArray⟩, .bool x_v3, .string ⟨x_l3.toArray⟩, .int .i64 c, .slice sa n sc] 49)).cell? ⟨w.heap.size, 4, none⟩ = some (.string ⟨x_l0.toArray⟩) := hC.cell 4
  have c5 : (w.alloc (.cells #[.string ⟨x_s.toArray⟩, .string ⟨x_p.toArray⟩, .int .i64 x_n, .bool x_v0, .string ⟨x_l0.toArray⟩, .bool x_v1, .string ⟨x_l1.toArray⟩, .bool x_v2, .string ⟨x_l2.toArray⟩, .bool x_v3, .string ⟨x_l3.toArray⟩, .int .i64 c, .slice sa n sc] 49)).cell? ⟨w.heap.size, 5, none⟩ = some (.bool x_v1) := hC.cell 5
  have c6 : (w.alloc (.cells #[.string ⟨x_s.toArray⟩, .string ⟨x_p.toArray⟩, .int .i64 x_n, .bool x_v0, .string ⟨x_l0.toArray⟩, .bool x_v1, .string ⟨x_l1.toArray⟩, .bool x_v2, .string ⟨x_l2.toArray⟩, .bool x_v3, .string ⟨x_l3.toArray⟩, .int .i64 c, .slice sa n sc] 49)).cell? ⟨w.heap.size, 6, none⟩ = some (.string ⟨x_l1.toArray⟩) := hC.cell 6
  have c7 : (w.alloc (.cells #[.string ⟨x_s.toArray⟩, .string ⟨x_p.toArray⟩, .int .i64 x_n, .bool x_v0, .string ⟨x_l0.toArray⟩, .bool x_v1, .string ⟨x_l1.toArray⟩, .bool x_v2, .string ⟨x_l2.toArray⟩, .bool x_v3, .string ⟨x_l3.toArray⟩, .int .i64 c, .slice sa n sc] 49)).cell? ⟨w.heap.size, 7, none⟩ = some (.bool x_v2) := hC.cell 7
  have c8 : (w.alloc (.cells #[.string ⟨x_s.toArray⟩, .string ⟨x_p.toArray⟩, .int .i64 x_n, .bool x_v0, .string ⟨x_l0.toArray⟩, .bool x_v1, .string ⟨x_l1.toArray⟩, .bool x_v2, .string ⟨x_l2.toArray⟩, .bool x_v3, .string ⟨x_l3.toArray⟩, .int .i64 c, .slice sa n sc] 49)).cell? ⟨w.heap.size, 8, none⟩ = some (.string ⟨x_l2.toArray⟩) := hC.cell 8
  have c9 : (w.alloc (.cells #[.string ⟨x_s.toArray⟩, .string ⟨x_p.toArray⟩, .int .i64 x_n, .bool x_v0, .string ⟨x_l0.toArray⟩, .bool x_v1, .string ⟨x_l1.toArray⟩, .bool x_v2, .string ⟨x_l2.toArray⟩, .bool x_v3, .string ⟨x_l3.toArray⟩, .int .i64 c, .slice sa n sc] 49)).cell? ⟨w.heap.size, 9, none⟩ = some (.bool x_v3) := hC.cell 9
  have c10 : (w.alloc (.cells #[.string ⟨x_s.toArray⟩, .string ⟨x_p.toArray⟩, .int .i64 x_n, .bool x_v0, .string ⟨x_l0.toArray⟩, .bool x_v1, .string ⟨x_l1.toArray⟩, .bool x_v2, .string ⟨x_l2.toArray⟩, .bool x_v3, .string ⟨x_l3.toArray⟩, .int .i64 c, .slice sa n sc] 49)).cell? ⟨w.heap.size, 10, none⟩ = some (.string ⟨x_l3.toArray⟩) := hC.cell 10
  replace hB := hB.next hS
  obtain ⟨a_c0, a_c1, a_c2, a_c3, a_c4, a_c5, a_c6, a_c7, a_c8, a_c9, a_c10⟩ := hB.all
  clear hB hC
  go_enter Tryz.func26, Tryz.ntmps26
  go_upto_region 1 with (fail)
  generalize hw : (w.alloc (.cells #[.string ⟨x_s.toArray⟩, .string ⟨x_p.toArray⟩, .int .i64 x_n, .bool x_v0, .string ⟨x_l0.toArray⟩, .bool x_v1, .string ⟨x_l1.toArray⟩, .bool x_v2, .string ⟨x_l2.toArray⟩, .bool x_v3, .string ⟨x_l3.toArray⟩, .int .i64 c, .slice sa n sc] 49)) = w1 at *
  clear hw
  go_wp2_with fail
  go_ret
  exact ⟨rfl, hS⟩
def idxP (f : Stp → Bool) : List Stp → Nat → Int
  | [], _ => -1
  | t :: r, k => if f t then k else idxP f r (k + 1)
theorem idxP_any (f : Stp → Bool) : ∀ (L : List Stp) (k : Nat), decide (0 ≤ idxP f L k) = L.any f
  | [], _ => rfl
  | t :: r, k => by
    rw [idxP, List.any_cons]
    cases h : f t
    · rw [if_neg (by simp), Bool.false_or]; exact idxP_any f r (k + 1)
    · rw [if_pos rfl, Bool.true_or]; exact decide_eq_true (by omega)
set_option maxHeartbeats 4000000 in
set_option maxRecDepth 100000 in
theorem idx_steps (v : Value) (L : List Stp) (g : Nat) (a_s a_p : List UInt8) (a_n : Int) (a_v0 a_v1 a_v2 a_v3 : Bool) (a_l0 a_l1 a_l2 a_l3 : List UInt8) (w : World) (hv : SRow w v L) (hB : Box w g ((a_s, a_p, a_n, (a_v0, a_l0), (a_v1, a_l1), (a_v2, a_l2), (a_v3, a_l3)) : Atm)) (ll : L.length ≤ 1000000) :
    Calls Tryz.prog 40 #[v, .func (.func 26) #[] #[.pointer (some ⟨g, 0, none⟩)]] w fun e w' => e = .returned (.int .i64 (idxP (fun s => eqA s.1 ((a_s, a_p, a_n, (a_v0, a_l0), (a_v1, a_l1), (a_v2, a_l2), (a_v3, a_l3)) : Atm)) L 0)) ∧ Since w w' := by
  obtain ⟨R, hR⟩ : ∃ R, Hid (R = idxP (fun s => eqA s.1 ((a_s, a_p, a_n, (a_v0, a_l0), (a_v1, a_l1), (a_v2, a_l2), (a_v3, a_l3)) : Atm)) L 0) := ⟨_, rfl⟩
  rw [← hR.out]
  obtain ⟨a1, c1, rfl⟩ := hv.slice
  have HV := Lib.hid hv
  have HBX := Lib.hid hB
  clear hv hB
  go_enter Tryz.func40, Tryz.ntmps40
  go_wp2_with fail
  go_loopw [8] (fun h wr => ∃ k : Nat, k ≤ L.length ∧ h = .int .i64 k ∧ Since w wr ∧ Hid (R = idxP (fun s => eqA s.1 ((a_s, a_p, a_n, (a_v0, a_l0), (a_v1, a_l1), (a_v2, a_l2), (a_v3, a_l3)) : Atm)) (L.drop k) k)) (fun h _ => L.length - (intOf h).toNat)
  case atStart => exact ⟨0, by omega, (by first | rfl | trivial), Since.refl _, hR⟩
  case round =>
    obtain ⟨k, hk, rfl, hS, hres⟩ := hrel
    by_cases hlt : k < L.length
    · have hlt2 : (k : Int) < (L.length : Int) := by omega
      have hlt0 : (0 : Int) ≤ (k : Int) := by omega
      obtain ⟨b, ob, rfl, hc, hat⟩ := (snext HV.out hS).get (by omega)
      obtain ⟨e1, e2, u, e3, e4⟩ := hat k hlt
      obtain ⟨s, hs⟩ : ∃ s, Hid (s = L[k]) := ⟨L[k], rfl⟩
      obtain ⟨t, ht⟩ : ∃ t, Hid (t = eqA (L[k]).1 ((a_s, a_p, a_n, (a_v0, a_l0), (a_v1, a_l1), (a_v2, a_l2), (a_v3, a_l3)) : Atm)) := ⟨eqA (L[k]).1 ((a_s, a_p, a_n, (a_v0, a_l0), (a_v1, a_l1), (a_v2, a_l2), (a_v3, a_l3)) : Atm), rfl⟩
      have hnx : Hid (R = if t then (k : Int) else idxP (fun s => eqA s.1 ((a_s, a_p, a_n, (a_v0, a_l0), (a_v1, a_l1), (a_v2, a_l2), (a_v3, a_l3)) : Atm)) (L.drop (k + 1)) (k + 1)) := by
        show _ = _
        rw [hres.out, List.drop_eq_getElem_cons hlt, idxP, ← ht.out]
      rw [← hs.out] at e1 e2 e4 ht
      obtain ⟨⟨x_s, x_p, x_n, ⟨x_v0, x_l0⟩, ⟨x_v1, x_l1⟩, ⟨x_v2, x_l2⟩, ⟨x_v3, x_l3⟩⟩, c, V⟩ := s
      obtain ⟨sa, sc, rfl⟩ := e4.slice
      simp only at e1 e2 e3
      obtain ⟨x_c0, x_c1, x_c2, x_c3, x_c4, x_c5, x_c6, x_c7, x_c8, x_c9, x_c10⟩ := e1.all
      have HC := Lib.hid (kacc1_any x_s x_p x_n x_v0 x_v1 x_v2 x_v3 x_l0 x_l1 x_l2 x_l3 c sa V.length sc g a_s a_p a_n a_v0 a_v1 a_v2 a_v3 a_l0 a_l1 a_l2 a_l3 wr (HBX.out.next hS))
      simp only at ht HC
      rw [← ht.out] at HC
      clear hres hat e1 e4 hs ht
      cases t
      · go_wp2_with fail
        refine HC.out.mono ?_
        rintro e w1 ⟨rfl, hb⟩
        go_wp2_with fail
        go_roundw
        case rel => exact ⟨k + 1, by omega, by go_num, hS.trans hb, hnx⟩
        case measure => simp [intOf]; omega
      · go_wp2_with fail
        refine HC.out.mono ?_
        rintro e w1 ⟨rfl, hb⟩
        go_wp2_with fail
        go_ret
        exact ⟨ret_int hnx.out.symm, hS.trans hb⟩
    · have hlt2 : ¬ (k : Int) < (L.length : Int) := by omega
      go_wp2_with fail
      go_ret
      refine ⟨ret_int ?_, hS⟩
      rw [hres.out, List.drop_eq_nil_of_le (by omega)]; rfl
set_option maxHeartbeats 1000000 in
theorem has_steps (v : Value) (L : List Stp) (g : Nat) (a : Atm) (w : World) (hv : SRow w v L) (hB : Box w g a) (ll : L.length ≤ 1000000) :
    Calls Tryz.prog 25 #[v, .func (.func 26) #[] #[.pointer (some ⟨g, 0, none⟩)]] w fun e w' => e = .returned (.bool (L.any fun s => eqA s.1 a)) ∧ Since w w' := by
  obtain ⟨a_s, a_p, a_n, ⟨a_v0, a_l0⟩, ⟨a_v1, a_l1⟩, ⟨a_v2, a_l2⟩, ⟨a_v3, a_l3⟩⟩ := a
  have HC := Lib.hid (idx_steps v L g a_s a_p a_n a_v0 a_v1 a_v2 a_v3 a_l0 a_l1 a_l2 a_l3 w hv hB ll)
  have ha := idxP_any (fun s => eqA s.1 ((a_s, a_p, a_n, (a_v0, a_l0), (a_v1, a_l1), (a_v2, a_l2), (a_v3, a_l3)) : Atm)) L 0
  clear hv hB
  rw [← ha]
  clear ha
  generalize idxP (fun s => eqA s.1 ((a_s, a_p, a_n, (a_v0, a_l0), (a_v1, a_l1), (a_v2, a_l2), (a_v3, a_l3)) : Atm)) L 0 = R at *
  go_enter Tryz.func25, Tryz.ntmps25
  go_wp2_with fail
  refine HC.out.mono ?_
  rintro e w1 ⟨rfl, hb⟩
  go_wp2_with fail
  go_ret
  exact ⟨rfl, hb⟩
/-- Do steps bear an atom? -/
def accB (L : List Cls) (F : List Atm) (T : List Stp) (a : Atm) : Bool := decide ((soundS L F T).2 = 0) && T.any fun s => eqA s.1 a
set_option maxHeartbeats 4000000 in
set_option maxRecDepth 100000 in
theorem kaccepts_any (va : Option Addr) (lc : Nat) (L : List Cls) (vf : Option Addr) (fc : Nat) (G : List Atm) (vs : Option Addr) (tc : Nat) (T : List Stp) (a_s a_p : List UInt8) (a_n : Int) (a_v0 a_v1 a_v2 a_v3 : Bool) (a_l0 a_l1 a_l2 a_l3 : List UInt8) (w : World)
    (hv : RRow w (.slice va L.length lc) L) (hg : ARow w (.slice vf G.length fc) G) (ht : SRow w (.slice vs T.length tc) T) (hkb : L.length ≤ 100000) (hmg : G.length ≤ 100000) (htb : T.length ≤ 1000000)
    (hb9 : ∀ c ∈ L, c.2.length ≤ 100) (hF : ∀ c ∈ L, FitsC c) (hG : ∀ a ∈ G, FitsN a) (hfT : ∀ t ∈ T, FitsN t.1 ∧ t.2.2.length ≤ 100000) (hE : Env w) :
    Calls Tryz.prog 13 #[.slice va L.length lc, .slice vf G.length fc, .slice vs T.length tc, .agg #[.string ⟨a_s.toArray⟩, .string ⟨a_p.toArray⟩, .int .i64 a_n, .bool a_v0, .string ⟨a_l0.toArray⟩, .bool a_v1, .string ⟨a_l1.toArray⟩, .bool a_v2, .string ⟨a_l2.toArray⟩, .bool a_v3, .string ⟨a_l3.toArray⟩]] w fun e w' => e = .returned (.bool (accB L G T ((a_s, a_p, a_n, (a_v0, a_l0), (a_v1, a_l1), (a_v2, a_l2), (a_v3, a_l3)) : Atm))) ∧ Since w w' := by
  have hS : Since w (w.alloc (.cells #[.string ⟨a_s.toArray⟩, .string ⟨a_p.toArray⟩, .int .i64 a_n, .bool a_v0, .string ⟨a_l0.toArray⟩, .bool a_v1, .string ⟨a_l1.toArray⟩, .bool a_v2, .string ⟨a_l2.toArray⟩, .bool a_v3, .string ⟨a_l3.toArray⟩] 29)) := (Since.refl w).alloc _
  have a_B : Box (w.alloc (.cells #[.string ⟨a_s.toArray⟩, .string ⟨a_p.toArray⟩, .int .i64 a_n, .bool a_v0, .string ⟨a_l0.toArray⟩, .bool a_v1, .string ⟨a_l1.toArray⟩, .bool a_v2, .string ⟨a_l2.toArray⟩, .bool a_v3, .string ⟨a_l3.toArray⟩] 29)) w.heap.size ((a_s, a_p, a_n, (a_v0, a_l0), (a_v1, a_l1), (a_v2, a_l2), (a_v3, a_l3)) : Atm) := box_new w _ _
  have HS := Lib.hid (ksound_main va lc L vf fc G vs tc T _ (rnext hv hS) (anext hg hS) (snext ht hS) hkb hmg htb hb9 hF hG hfT (hE.next hS))
  have HT := Lib.hid (snext ht hS)
  obtain ⟨R, hR⟩ : ∃ R, Hid (R = accB L G T ((a_s, a_p, a_n, (a_v0, a_l0), (a_v1, a_l1), (a_v2, a_l2), (a_v3, a_l3)) : Atm)) := ⟨_, rfl⟩
  rw [← hR.out]
  obtain ⟨at0, er, hat⟩ : ∃ x y, Hid ((x, y) = soundS L G T) := ⟨_, _, rfl⟩
  rw [← hat.out] at HS
  simp only at HS
  have hR1 : Hid (R = (decide (er = 0) && T.any fun s => eqA s.1 ((a_s, a_p, a_n, (a_v0, a_l0), (a_v1, a_l1), (a_v2, a_l2), (a_v3, a_l3)) : Atm))) := by
    show _ = _
    rw [hR.out]; unfold accB; rw [← hat.out]
  clear hv hg ht hF hG hfT hb9 hE hR hat
  by_cases he0 : er = 0
  · subst he0
    obtain ⟨Y, hY⟩ : ∃ Y, Hid (Y = T.any fun s => eqA s.1 ((a_s, a_p, a_n, (a_v0, a_l0), (a_v1, a_l1), (a_v2, a_l2), (a_v3, a_l3)) : Atm)) := ⟨_, rfl⟩
    rw [← hY.out] at hR1
    have hRf : R = Y := hR1.out
    clear hR1
    subst hRf
    go_enter Tryz.func13, Tryz.ntmps13
    go_wp2_with fail
    refine HS.out.mono ?_
    rintro e w2 ⟨rfl, hb⟩
    have HH := Lib.hid (has_steps _ T _ _ w2 (snext HT.out hb) (a_B.next hb) htb)
    rw [← hY.out] at HH
    clear a_B hY
    go_wp2_with fail
    refine HH.out.mono ?_
    rintro e w3 ⟨rfl, hb3⟩
    go_wp2_with fail
    go_ret
    exact ⟨rfl, (hS.trans hb).trans hb3⟩
  · have hRf : R = false := by rw [hR1.out, decide_eq_false he0]; rfl
    have heq : (er == 0) = false := by simpa using he0
    subst hRf
    clear hR1 a_B HT
    go_enter Tryz.func13, Tryz.ntmps13
    go_wp2_with fail
    refine HS.out.mono ?_
    rintro e w2 ⟨rfl, hb⟩
    go_wp2_with fail
    go_ret
    exact ⟨rfl, hS.trans hb⟩
end Go.Proofs.YtdlnmkdbjgbimaaGreatDoor

namespace Go.Proofs.YtdlnmkdbjgbimaaGreatDoor
open Go.RowKit

def bump (C : List Int) (x : Int) : List Int := if 0 ≤ x ∧ x < (C.length : Int) then C.set x.toNat ((C[x.toNat]?).getD 0 + 1) else C
/-- How often each step is cited. -/
def citedS (T : List Stp) : List Int := (T.flatMap fun t => t.2.2).foldl bump (List.replicate T.length 0)
theorem bump_len (C : List Int) (x : Int) : (bump C x).length = C.length := by unfold bump; split <;> simp
theorem bumps_len (V : List Int) : ∀ C : List Int, (V.foldl bump C).length = C.length := by
  induction V with
  | nil => intro C; rfl
  | cons x r ih => intro C; rw [List.foldl_cons, ih, bump_len]
def intsC (C : List Int) : Array Value := (C.map (Value.int .i64)).toArray
theorem intsC_size (C : List Int) : (intsC C).size = C.length := by simp [intsC]
theorem intsC_set (C : List Int) (m : Nat) (u : Int) : (intsC C).setIfInBounds m (.int .i64 u) = intsC (C.set m u) := by
  simp [intsC, List.map_set]
theorem intsC_get (C : List Int) {m : Nat} (h : m < C.length) : (intsC C)[m]? = some (.int .i64 ((C[m]?).getD 0)) := by
  simp [intsC, h]
theorem run_mkInts (n : Nat) (hn : n ≤ 1000000) (w : World) : (Instr.makeSlice 41 (.int .i64 (n : Int)) (.int .i64 (n : Int))).run Tryz.prog w = .ok (.slice (some ⟨w.heap.size, 0, none⟩) n n) (w.alloc (.cells (intsC (List.replicate n 0)) 3)) := by
  obtain ⟨i0, hi0, hz0, hz1, hz2⟩ : ∃ i0 : TypeInfo, Tryz.prog.info? 3 = some i0 ∧ i0.zero = some (.int .i64 0) ∧ i0.size = 1 ∧ i0.bytes = 8 := by
    have hk : (Tryz.prog.info? 3).map (fun i => (i.zero, i.size, i.bytes)) = some (some (.int .i64 0), 1, 8) := by kernel_rfl
    obtain ⟨i0, h1, h2⟩ := Option.map_eq_some_iff.1 hk
    simp only [Prod.mk.injEq] at h2
    exact ⟨i0, h1, h2.1, h2.2.1, h2.2.2⟩
  have hr := run_make (P := Tryz.prog) w 41 3 i0 (.int .i64 0) Tryz.underlying41 hi0 hz0 .i64 .i64 n n (by omega) (Int.le_refl _) (by rw [hz2]; omega) (by omega)
  simp only [Int.toNat_natCast, hz1, Nat.mul_one] at hr
  rw [hr]
  have e : madeCells (Value.int .i64 0).cells n = intsC (List.replicate n 0) := by
    apply Array.ext'
    have h1 : (Value.int .i64 0).cells = #[.int .i64 0] := rfl
    rw [h1, toList_madeCells_one]
    simp [intsC]
  rw [e]
set_option maxHeartbeats 8000000 in
set_option maxRecDepth 100000 in
theorem kcited_any (vs : Option Addr) (tc : Nat) (T : List Stp) (w : World) (ht : SRow w (.slice vs T.length tc) T) (htb : T.length ≤ 1000000) (hfT : ∀ t ∈ T, t.2.2.length ≤ 100000) :
    Calls Tryz.prog 16 #[.slice vs T.length tc] w fun e w' => ∃ q, e = .returned (.slice (some ⟨q, 0, none⟩) T.length T.length) ∧ Cel w' q (intsC (citedS T)) 3 ∧ w.heap.size ≤ q ∧ Since w w' := by
  have HT := Lib.hid ht
  have HFT := Lib.hid hfT
  have hms := run_mkInts T.length htb w
  have hq0 : Cel (w.alloc (.cells (intsC (List.replicate T.length 0)) 3)) w.heap.size (intsC (List.replicate T.length 0)) 3 := heap_alloc_new w _
  have hS0 : Since w (w.alloc (.cells (intsC (List.replicate T.length 0)) 3)) := (Since.refl w).alloc _
  have hSz : w.heap.size < (w.alloc (.cells (intsC (List.replicate T.length 0)) 3)).heap.size := hq0.lt
  obtain ⟨R, hR⟩ : ∃ R, Hid (R = citedS T) := ⟨_, rfl⟩
  rw [← hR.out]
  have hR0 : Hid (R = ((T.drop 0).flatMap fun t => t.2.2).foldl bump (List.replicate T.length 0)) := by show _ = _; rw [List.drop_zero]; exact hR.out
  clear ht hfT hR
  go_enter Tryz.func16, Tryz.ntmps16
  go_upto_region 2 with (fail)
  clear hms
  generalize hw1 : w.alloc (.cells (intsC (List.replicate T.length 0)) 3) = w1 at *
  clear hw1
  go_wp2_with fail
  go_loopw [13] (fun i wr => ∃ (k : Nat) (C : List Int), k ≤ T.length ∧ i = .int .i64 (k : Int) ∧ Since w wr ∧ Cel wr w.heap.size (intsC C) 3 ∧ C.length = T.length ∧ Hid (∀ x ∈ C, 0 ≤ x ∧ x ≤ 100000 * (k : Int)) ∧ Hid (R = ((T.drop k).flatMap fun t => t.2.2).foldl bump C)) (fun i _ => T.length - (intOf i).toNat)
  case atStart => exact ⟨0, _, by omega, rfl, hS0, hq0, by simp, (fun x hx => by rw [List.mem_replicate] at hx; rw [hx.2]; omega), hR0⟩
  case round =>
    clear hq0 hS0 hR0
    obtain ⟨k, C, hk, rfl, hS, hq, hCl, hbnd, hres⟩ := hrel
    by_cases hlt : k < T.length
    · have hki : (k : Int) < (T.length : Int) := by omega
      have hvl := HFT.out _ (List.getElem_mem hlt)
      obtain ⟨bs, os, rfl, hcs, hats⟩ := HT.out.get (by omega)
      obtain ⟨e1, e2, u, e3, e4⟩ := hats k hlt
      rw [List.drop_eq_getElem_cons hlt, List.flatMap_cons, List.foldl_append] at hres
      obtain ⟨s, hs⟩ : ∃ s, Hid (s = T[k]) := ⟨T[k], rfl⟩
      rw [← hs.out] at e1 e2 e4 hres hvl
      obtain ⟨⟨x_s, x_p, x_n, ⟨x_v0, x_l0⟩, ⟨x_v1, x_l1⟩, ⟨x_v2, x_l2⟩, ⟨x_v3, x_l3⟩⟩, c, V⟩ := s
      obtain ⟨sa, sc, rfl⟩ := e4.slice
      simp only at e1 e2 e3 e4 hvl hres
      replace e1 := e1.next hS
      replace e2 := hS.cell e2
      replace e3 := hS.cell e3
      obtain ⟨x_c0, x_c1, x_c2, x_c3, x_c4, x_c5, x_c6, x_c7, x_c8, x_c9, x_c10⟩ := e1.all
      have HRES := Lib.hid hres
      have hSx : Since wr (wr.alloc (.cells #[.string ⟨x_s.toArray⟩, .string ⟨x_p.toArray⟩, .int .i64 x_n, .bool x_v0, .string ⟨x_l0.toArray⟩, .bool x_v1, .string ⟨x_l1.toArray⟩, .bool x_v2, .string ⟨x_l2.toArray⟩, .bool x_v3, .string ⟨x_l3.toArray⟩, .int .i64 c, .slice sa V.length sc] 49)) := (Since.refl wr).alloc _
      have hbx : Cel (wr.alloc (.cells #[.string ⟨x_s.toArray⟩, .string ⟨x_p.toArray⟩, .int .i64 x_n, .bool x_v0, .string ⟨x_l0.toArray⟩, .bool x_v1, .string ⟨x_l1.toArray⟩, .bool x_v2, .string ⟨x_l2.toArray⟩, .bool x_v3, .string ⟨x_l3.toArray⟩, .int .i64 c, .slice sa V.length sc] 49)) wr.heap.size #[.string ⟨x_s.toArray⟩, .string ⟨x_p.toArray⟩, .int .i64 x_n, .bool x_v0, .string ⟨x_l0.toArray⟩, .bool x_v1, .string ⟨x_l1.toArray⟩, .bool x_v2, .string ⟨x_l2.toArray⟩, .bool x_v3, .string ⟨x_l3.toArray⟩, .int .i64 c, .slice sa V.length sc] 49 := heap_alloc_new wr _
      have HV := Lib.hid e4
      have hq2 := hq.next hSx
      have hS2 := hS.trans hSx
      have hszr := hq.lt
      clear hres hats hcs e1 e4 hs
      go_upto_region 5 with (fail)
      generalize hw2 : wr.alloc (.cells #[.string ⟨x_s.toArray⟩, .string ⟨x_p.toArray⟩, .int .i64 x_n, .bool x_v0, .string ⟨x_l0.toArray⟩, .bool x_v1, .string ⟨x_l1.toArray⟩, .bool x_v2, .string ⟨x_l2.toArray⟩, .bool x_v3, .string ⟨x_l3.toArray⟩, .int .i64 c, .slice sa V.length sc] 49) = w2 at *
      have d12 : w2.cell? ⟨wr.heap.size, 12, none⟩ = some (.slice sa V.length sc) := hbx.cell 12
      clear hw2 hbx e2 e3 x_c0 x_c1 x_c2 x_c3 x_c4 x_c5 x_c6 x_c7 x_c8 x_c9 x_c10
      go_wp2_with fail
      go_loopw [20] (fun i wr => ∃ (j : Nat) (D : List Int), j ≤ V.length ∧ i = .int .i64 (j : Int) ∧ Since w wr ∧ Cel wr w.heap.size (intsC D) 3 ∧ D.length = T.length ∧ Hid (∀ x ∈ D, 0 ≤ x ∧ x ≤ 100000 * (k : Int) + (j : Int)) ∧ Hid ((V.drop j).foldl bump D = V.foldl bump C)) (fun i _ => V.length - (intOf i).toNat)
      case atStart => exact ⟨0, C, by omega, rfl, hS2, hq2, hCl, (fun x hx => by have := hbnd.out x hx; omega), rfl⟩
      case round =>
        clear hq2 hS2
        obtain ⟨j, D, hj, rfl, hS, hq, hDl, hbd2, hres⟩ := hrel
        have hk6 : (k : Int) < 1000000 := by omega
        by_cases hjl : j < V.length
        · have hji : (j : Int) < (V.length : Int) := by omega
          obtain ⟨bv, ov, rfl, hcv, hatv⟩ := (inext HV.out hS).get (by omega)
          have hv0 := hatv j hjl
          unfold IntAt at hv0
          rw [Nat.mul_one] at hv0
          have hmem := List.getElem_mem hjl
          rw [List.drop_eq_getElem_cons hjl, List.foldl_cons] at hres
          obtain ⟨y, hy⟩ : ∃ y, Hid (y = V[j]) := ⟨V[j], rfl⟩
          rw [← hy.out] at hv0 hres
          clear hatv hcv hmem hy
          by_cases hy0 : y < 0
          · have hb : bump D y = D := by unfold bump; rw [if_neg (by omega)]
            rw [hb] at hres
            have HR2 := Lib.hid hres
            have hy1 : ¬ 0 ≤ y := by omega
            clear hres hb hy0
            go_wp2_with fail
            go_roundw
            case rel => exact ⟨j + 1, D, by omega, by go_num, hS, hq, hDl, (fun x hx => by have := hbd2.out x hx; omega), HR2.out⟩
            case measure => simp [intOf]; omega
          · obtain ⟨m, rfl⟩ : ∃ m : Nat, y = (m : Int) := ⟨y.toNat, by omega⟩
            by_cases hm : m < T.length
            · have hmi : (m : Int) < (T.length : Int) := by omega
              have hg := intsC_get D (m := m) (by omega)
              obtain ⟨z, hz⟩ : ∃ z, Hid (z = (D[m]?).getD 0) := ⟨_, rfl⟩
              rw [← hz.out] at hg
              have hzb : 0 ≤ z ∧ z ≤ 100000 * (k : Int) + (j : Int) := by
                rw [hz.out, List.getElem?_eq_getElem (by omega)]
                exact hbd2.out _ (List.getElem_mem _)
              have hcm : wr.cell? ⟨w.heap.size, m, none⟩ = some (.int .i64 z) := (hq.cell m).trans hg
              have hfm : wr.frozen? ⟨w.heap.size, m, none⟩ = false := hq.free m
              have hwz : IntKind.i64.wrap (z + 1) = z + 1 := by rw [IntKind.wrap_i64]; omega
              have hb : bump D (m : Int) = D.set m (z + 1) := by
                unfold bump
                rw [if_pos ⟨by omega, by omega⟩, Int.toNat_natCast, ← hz.out]
              rw [hb] at hres
              have HR2 := Lib.hid hres
              have hq3 : Cel (wr.setCell ⟨w.heap.size, m, none⟩ (.int .i64 (z + 1))) w.heap.size (intsC (D.set m (z + 1))) 3 := hq.set (intsC_set D m (z + 1))
              have hS3 : Since w (wr.setCell ⟨w.heap.size, m, none⟩ (.int .i64 (z + 1))) := hS.setCell (Nat.le_refl _) _
              have hbd3 : Hid (∀ x ∈ D.set m (z + 1), 0 ≤ x ∧ x ≤ 100000 * (k : Int) + ((j + 1 : Nat) : Int)) := by
                intro x hx
                rcases List.mem_or_eq_of_mem_set hx with h | rfl
                · have := hbd2.out x h; omega
                · omega
              clear hres hb hg hz
              go_wp2_with fail
              go_roundw
              case rel => exact ⟨j + 1, D.set m (z + 1), by omega, by go_num, hS3, hq3, by rw [List.length_set]; exact hDl, hbd3, HR2.out⟩
              case measure => simp [intOf]; omega
            · have hmi : ¬ (m : Int) < (T.length : Int) := by omega
              have hb : bump D (m : Int) = D := by unfold bump; rw [if_neg (by omega)]
              rw [hb] at hres
              have HR2 := Lib.hid hres
              clear hres hb
              go_wp2_with fail
              go_roundw
              case rel => exact ⟨j + 1, D, by omega, by go_num, hS, hq, hDl, (fun x hx => by have := hbd2.out x hx; omega), HR2.out⟩
              case measure => simp [intOf]; omega
        · have hji : ¬ (j : Int) < (V.length : Int) := by omega
          have hDe : D = V.foldl bump C := by rw [← hres.out, List.drop_eq_nil_of_le (by omega)]; rfl
          have HR2 : Hid (R = ((T.drop (k + 1)).flatMap fun t => t.2.2).foldl bump D) := by show _ = _; rw [hDe]; exact HRES.out
          clear hres hDe
          go_wp2_with fail
          go_roundw
          case rel => exact ⟨k + 1, D, by omega, by go_num, hS, hq, hDl, (fun x hx => by have := hbd2.out x hx; omega), HR2⟩
          case measure => simp [intOf]; omega
    · have hki : ¬ (k : Int) < (T.length : Int) := by omega
      have hRf : R = C := by rw [hres.out, List.drop_eq_nil_of_le (by omega)]; rfl
      subst hRf
      clear hres hbnd
      go_wp2_with fail
      go_ret
      exact ⟨_, rfl, hq, Nat.le_refl _, hS⟩
end Go.Proofs.YtdlnmkdbjgbimaaGreatDoor
