/- formed: ranged. -/
import Derived.Test.YtpkggopaigledaaDoorFoJ
import Derived.Test.YtpkggopaigledaaDoorHeldS
import Derived.Test.YtpkggopaigledaaDoorTermP
namespace Go.Proofs.YtpkggopaigledaaDoor
open Go.RowKit

theorem put_list' {L : List Value} {ds : List Deferred} {o : Option Tmp} {d : Nat} {v : Value} (h : o = some d) : Act.put ⟨L.toArray, ds⟩ o v = ⟨(L.set d v).toArray, ds⟩ := by rw [h, put_list]
theorem box_far {W : World} {g : Nat} {a : Atm} (h : Box W g a) {p : Addr} (hp : p.block ≠ g) (u : Value) : Box (W.setCell p u) g a := by
  intro j hj
  rw [World.cell?_setCell_other _ _ _ _ (fun e => hp (congrArg Addr.block e))]
  exact h j hj
theorem box_grown {W W' : World} {g : Nat} {a : Atm} (h : Box W g a) {row : Option Nat} (hg : W.grownBy W' row) (hr : some g ≠ row) : Box W' g a := by
  intro j hj
  have h0 := h j hj
  exact (World.cell?_of_block (hg.block g (World.block_lt_of_cell? W _ h0) hr)).trans h0
set_option maxHeartbeats 1000000 in
theorem franged1_any (s : Txt) (H : List Txt) (g : Nat) (a : Option Addr) (n c : Nat) (w : World) (h0 : w.cell? ⟨g, 0, none⟩ = some (.slice a n c)) (hT : TRow w (.slice a n c) H) (lm : H.length ≤ 1000000) :
    Calls Tryd.prog 88 #[.string ⟨s.toArray⟩, .pointer (some ⟨g, 0, none⟩)] w fun e w' => e = .returned (.bool (!(H.contains s))) ∧ w = w' := by
  obtain ⟨t, ht⟩ : ∃ t, Hid (t = H.contains s) := ⟨_, rfl⟩
  have HC := Lib.hid (tcontains_any _ H s w hT (by omega))
  rw [← ht.out] at HC ⊢
  clear hT
  go_enter Tryd.func88, Tryd.ntmps88
  go_wp2_with fail
  refine HC.out.mono ?_
  rintro e w1 ⟨rfl, rfl⟩
  go_wp2_with fail
  go_ret
  exact ⟨rfl, rfl⟩
def idxS (f : Txt → Bool) : List Txt → Nat → Int
  | [], _ => -1
  | t :: r, k => if f t then k else idxS f r (k + 1)
theorem idxS_any (f : Txt → Bool) : ∀ (L : List Txt) (k : Nat), decide (0 ≤ idxS f L k) = L.any f
  | [], _ => rfl
  | t :: r, k => by
    rw [idxS, List.any_cons]
    cases h : f t
    · rw [if_neg (by simp), Bool.false_or]; exact idxS_any f r (k + 1)
    · rw [if_pos rfl, Bool.true_or]; exact decide_eq_true (by omega)
set_option maxHeartbeats 1000000 in
theorem idx_txt (v : Value) (L : List Txt) (H : List Txt) (g : Nat) (a : Option Addr) (n c : Nat) (w : World) (hv : TRow w v L) (h0 : w.cell? ⟨g, 0, none⟩ = some (.slice a n c)) (hT : TRow w (.slice a n c) H) (lm : H.length ≤ 1000000) (ll : L.length ≤ 1000000) :
    Calls Tryd.prog 99 #[v, .func (.func 88) #[] #[.pointer (some ⟨g, 0, none⟩)]] w fun e w' => e = .returned (.int .i64 (idxS (fun s => !(H.contains s)) L 0)) ∧ w = w' := by
  obtain ⟨R, hR⟩ : ∃ R, Hid (R = idxS (fun s => !(H.contains s)) L 0) := ⟨_, rfl⟩
  rw [← hR.out]
  obtain ⟨a1, c1, rfl⟩ := hv.slice
  have HV := Lib.hid hv
  have HR1 := Lib.hid (fun s => franged1_any s H g a n c w h0 hT lm)
  clear hv hT h0
  go_enter Tryd.func99, Tryd.ntmps99
  go_wp2_with fail
  go_loopw [8] (fun h wr => ∃ k : Nat, k ≤ L.length ∧ h = .int .i64 k ∧ w = wr ∧ Hid (R = idxS (fun s => !(H.contains s)) (L.drop k) k)) (fun h _ => L.length - (intOf h).toNat)
  case atStart => exact ⟨0, by omega, (by first | rfl | trivial), (by first | rfl | trivial), hR⟩
  case round =>
    obtain ⟨k, hk, rfl, rfl, hres⟩ := hrel
    by_cases hlt : k < L.length
    · have hlt2 : (k : Int) < (L.length : Int) := by omega
      have hlt0 : (0 : Int) ≤ (k : Int) := by omega
      obtain ⟨b, o, rfl, hc, hat⟩ := HV.out.get (by omega)
      have d1 := hat k hlt
      obtain ⟨s, hs⟩ : ∃ s, Hid (s = L[k]) := ⟨L[k], rfl⟩
      unfold TxtAt at d1
      rw [Nat.mul_one, ← hs.out] at d1
      simp only [strV] at d1
      clear hat
      obtain ⟨t, ht⟩ : ∃ t, Hid (t = !(H.contains s)) := ⟨_, rfl⟩
      have HC := Lib.hid (HR1.out s)
      rw [← ht.out] at HC
      have hnx : Hid (R = if t then (k : Int) else idxS (fun s => !(H.contains s)) (L.drop (k + 1)) (k + 1)) := by
        show _ = _
        rw [hres.out, List.drop_eq_getElem_cons hlt, idxS, ← hs.out, ← ht.out]
      clear hres
      cases t
      · go_wp2_with fail
        refine HC.out.mono ?_
        rintro e w1 ⟨rfl, rfl⟩
        go_wp2_with fail
        go_roundw
        case rel => exact ⟨k + 1, by omega, by go_num, (by first | rfl | trivial), hnx⟩
        case measure => simp [intOf]; omega
      · go_wp2_with fail
        refine HC.out.mono ?_
        rintro e w1 ⟨rfl, rfl⟩
        go_wp2_with fail
        go_ret
        exact ⟨ret_int hnx.out.symm, rfl⟩
    · have hlt2 : ¬ (k : Int) < (L.length : Int) := by omega
      go_wp2_with fail
      go_ret
      refine ⟨ret_int ?_, rfl⟩
      rw [hres.out, List.drop_eq_nil_of_le (by omega)]; rfl
set_option maxHeartbeats 1000000 in
theorem has_txt (v : Value) (L : List Txt) (H : List Txt) (g : Nat) (a : Option Addr) (n c : Nat) (w : World) (hv : TRow w v L) (h0 : w.cell? ⟨g, 0, none⟩ = some (.slice a n c)) (hT : TRow w (.slice a n c) H) (lm : H.length ≤ 1000000) (ll : L.length ≤ 1000000) :
    Calls Tryd.prog 87 #[v, .func (.func 88) #[] #[.pointer (some ⟨g, 0, none⟩)]] w fun e w' => e = .returned (.bool (L.any fun s => !(H.contains s))) ∧ w = w' := by
  have HC := Lib.hid (idx_txt v L H g a n c w hv h0 hT lm ll)
  have ha := idxS_any (fun s => !(H.contains s)) L 0
  clear hv h0 hT
  rw [← ha]
  clear ha
  generalize idxS (fun s => !(H.contains s)) L 0 = R at *
  go_enter Tryd.func87, Tryd.ntmps87
  go_wp2_with fail
  refine HC.out.mono ?_
  rintro e w1 ⟨rfl, rfl⟩
  go_wp2_with fail
  go_ret
  exact ⟨rfl, rfl⟩
theorem own_setF {w : World} {g : Nat} {e : TypeId} {size : Nat} {v : Value} {n : Nat} {xs : List Value} (h : w.ownsRow (g + 1) e size v n xs) (u : Value) : (w.setCell ⟨g, 0, none⟩ u).ownsRow (g + 1) e size v n xs := by
  have b := Below.setCell (p := ⟨g, 0, none⟩) (Below.refl 0 w) (Nat.zero_le _) u
  refine h.kept (row := some g) ⟨b.os, b.tape, b.output, b.size, fun k _ hk => Below.heap_setCell w _ u k (fun e => hk (by rw [e]))⟩ ?_
  cases hv : v.ownBlock with
  | none => exact .inl rfl
  | some j => exact .inr (fun e => by have := own_ge h j hv; cases e; omega)
theorem trow_own {w : World} {base : Nat} {e : TypeId} {v : Value} {L : List Txt} (h : w.ownsRow base e 1 v L.length (L.map strV)) : TRow w v L := by
  rcases row_of_own h with ⟨rfl, h2, _⟩ | ⟨b, o, c, rfl, hn, hc⟩
  · have hL := List.eq_nil_of_length_eq_zero h2
    subst hL
    exact KRow.nil _ _
  · refine ⟨_, _, rfl, hn, fun _ => ⟨b, o, rfl, fun k hk => ?_⟩⟩
    have := hc k (by simpa using hk)
    unfold TxtAt
    rw [Nat.mul_one, this, List.getElem_map]
def haveF (L : List Atm) : List Txt := L.flatMap fun b => namesA b true
def rangedE (a : Atm) (L : List Atm) : Int := ifE ((namesA a true).any fun s => !((haveF L).contains s)) 9
theorem names_le (a : Atm) : (namesA a true).length ≤ 4 := by
  have := names_len a
  have := countA_le a
  omega
theorem have_len (L : List Atm) : (haveF L).length ≤ L.length * 4 := by
  induction L with
  | nil => exact Nat.le_refl _
  | cons x r ih =>
    have h1 := names_le x
    rw [haveF, List.flatMap_cons, List.length_append, List.length_cons]
    unfold haveF at ih
    omega
theorem have_more (L : List Atm) (k : Nat) (h : k < L.length) : haveF (L.take k) ++ namesA L[k] true = haveF (L.take (k + 1)) := by
  rw [← take_more L k h, haveF, haveF, List.flatMap_append]
  simp
set_option maxHeartbeats 8000000 in
set_option maxRecDepth 100000 in
theorem franged_any (a_s a_p : List UInt8) (a_n : Int) (a_v0 a_v1 a_v2 a_v3 : Bool) (a_l0 a_l1 a_l2 a_l3 : List UInt8) (v : Option Addr) (n c : Nat) (L : List Atm) (w : World) (hA : ARow w (.slice v n c) L) (lm : L.length ≤ 100000) :
    Calls Tryd.prog 67 #[.agg #[.string ⟨a_s.toArray⟩, .string ⟨a_p.toArray⟩, .int .i64 a_n, .bool a_v0, .string ⟨a_l0.toArray⟩, .bool a_v1, .string ⟨a_l1.toArray⟩, .bool a_v2, .string ⟨a_l2.toArray⟩, .bool a_v3, .string ⟨a_l3.toArray⟩, .slice v n c]] w fun e w' => e = .returned (.int .i64 (rangedE ((a_s, a_p, a_n, (a_v0, a_l0), (a_v1, a_l1), (a_v2, a_l2), (a_v3, a_l3)) : Atm) L)) ∧ Since w w' := by
  have hmf : ∀ (fn : Fn) (first cap : Array Value) (w : World), (Instr.makeFunc fn first cap).run Tryd.prog w = .ok (.func fn first cap) w := fun _ _ _ _ => rfl
  obtain ⟨i0, hi, hz0, hz1, hz2⟩ := info_parts infoStr
  have HI := Lib.hid (And.intro hi (And.intro hz0 (And.intro hz1 hz2)))
  clear hi hz0 hz1 hz2
  have hS0 : Since w (w.alloc (.cells #[.string ⟨a_s.toArray⟩, .string ⟨a_p.toArray⟩, .int .i64 a_n, .bool a_v0, .string ⟨a_l0.toArray⟩, .bool a_v1, .string ⟨a_l1.toArray⟩, .bool a_v2, .string ⟨a_l2.toArray⟩, .bool a_v3, .string ⟨a_l3.toArray⟩, .slice v n c] 42)) := (Since.refl _).alloc _
  have HA := Lib.hid (anext hA hS0)
  have hn := Lib.hid hA.form
  have hnm : n ≤ 100000 := by have := hA.form; omega
  have a_B : Box (w.alloc (.cells #[.string ⟨a_s.toArray⟩, .string ⟨a_p.toArray⟩, .int .i64 a_n, .bool a_v0, .string ⟨a_l0.toArray⟩, .bool a_v1, .string ⟨a_l1.toArray⟩, .bool a_v2, .string ⟨a_l2.toArray⟩, .bool a_v3, .string ⟨a_l3.toArray⟩, .slice v n c] 42)) w.heap.size ((a_s, a_p, a_n, (a_v0, a_l0), (a_v1, a_l1), (a_v2, a_l2), (a_v3, a_l3)) : Atm) := by
    intro j hj
    rw [World.cell?_alloc_new]
    have hj' : j < 11 := by simpa [atmC] using hj
    match j, hj' with
    | 0, _ => rfl
    | 1, _ => rfl
    | 2, _ => rfl
    | 3, _ => rfl
    | 4, _ => rfl
    | 5, _ => rfl
    | 6, _ => rfl
    | 7, _ => rfl
    | 8, _ => rfl
    | 9, _ => rfl
    | 10, _ => rfl
  clear hA
  go_enter Tryd.func67, Tryd.ntmps67
  go_wp2_with fail
  generalize hw1 : (w.alloc (.cells #[.string ⟨a_s.toArray⟩, .string ⟨a_p.toArray⟩, .int .i64 a_n, .bool a_v0, .string ⟨a_l0.toArray⟩, .bool a_v1, .string ⟨a_l1.toArray⟩, .bool a_v2, .string ⟨a_l2.toArray⟩, .bool a_v3, .string ⟨a_l3.toArray⟩, .slice v n c] 42)) = w0 at *
  have hz1 : w.heap.size + 1 = w0.heap.size := by rw [← hw1]; simp
  clear hw1
  rw [hz1]
  go_loopw [10] (fun m wr => ∃ k : Nat, k ≤ n ∧ m = .int .i64 (k : Int) ∧ (∃ ha hl hc, Cel wr w0.heap.size #[.slice ha hl hc] 22 ∧ wr.ownsRow (w0.heap.size + 1) 9 1 (.slice ha hl hc) (haveF (L.take k)).length ((haveF (L.take k)).map strV)) ∧ Since w0 wr) (fun m _ => n - (intOf m).toNat)
  case atStart => exact ⟨0, by omega, rfl, ⟨none, 0, 0, heap_alloc_new _ _, World.ownsRow_nil _ _ _ _⟩, (Since.refl _).alloc _⟩
  case round =>
    obtain ⟨k, hk, rfl, ⟨ha, hl, hc, hv0, hown0⟩, hSr⟩ := hrel
    by_cases hlt : k < n
    · have hkl : k < L.length := by have := hn.out; omega
      have hlt2 : (k : Int) < (n : Int) := by omega
      have hlt0 : (0 : Int) ≤ (k : Int) := by omega
      obtain ⟨b, o, rfl, hc', hat⟩ := (anext HA.out hSr).get (by omega)
      have d1 := hat k hkl
      obtain ⟨x, hx⟩ : ∃ x, Hid (x = L[k]) := ⟨L[k], rfl⟩
      rw [← hx.out] at d1
      have hmore := have_more L k hkl
      rw [← hx.out] at hmore
      have HMORE := Lib.hid hmore
      have hHl := have_len (L.take k)
      rw [List.length_take, Nat.min_eq_left (by omega)] at hHl
      have hxl := names_le x
      obtain ⟨H, hH⟩ : ∃ H, Hid (H = haveF (L.take k)) := ⟨_, rfl⟩
      rw [← hH.out] at hown0 hHl HMORE
      obtain ⟨x_s, x_p, x_n, ⟨x_v0, x_l0⟩, ⟨x_v1, x_l1⟩, ⟨x_v2, x_l2⟩, ⟨x_v3, x_l3⟩⟩ := x
      obtain ⟨x_c0, x_c1, x_c2, x_c3, x_c4, x_c5, x_c6, x_c7, x_c8, x_c9, x_c10⟩ := atat_cells x_s x_p x_n x_v0 x_v1 x_v2 x_v3 x_l0 x_l1 x_l2 x_l3 d1
      clear hat d1 hmore
      have hgr : w0.heap.size < wr.heap.size := hv0.lt
      have hob : ∀ k, (Value.slice ha hl hc).ownBlock = some k → k < wr.heap.size := fun k e => (hown0.lt k e).2
      have hv1 : Cel (wr.alloc (.cells #[.string ⟨x_s.toArray⟩, .string ⟨x_p.toArray⟩, .int .i64 x_n, .bool x_v0, .string ⟨x_l0.toArray⟩, .bool x_v1, .string ⟨x_l1.toArray⟩, .bool x_v2, .string ⟨x_l2.toArray⟩, .bool x_v3, .string ⟨x_l3.toArray⟩] 39)) w0.heap.size #[.slice ha hl hc] 22 := hv0.next ((Since.refl _).alloc _)
      have hown1 := hown0.alloc (.cells #[.string ⟨x_s.toArray⟩, .string ⟨x_p.toArray⟩, .int .i64 x_n, .bool x_v0, .string ⟨x_l0.toArray⟩, .bool x_v1, .string ⟨x_l1.toArray⟩, .bool x_v2, .string ⟨x_l2.toArray⟩, .bool x_v3, .string ⟨x_l3.toArray⟩] 39)
      have hbx : Box (wr.alloc (.cells #[.string ⟨x_s.toArray⟩, .string ⟨x_p.toArray⟩, .int .i64 x_n, .bool x_v0, .string ⟨x_l0.toArray⟩, .bool x_v1, .string ⟨x_l1.toArray⟩, .bool x_v2, .string ⟨x_l2.toArray⟩, .bool x_v3, .string ⟨x_l3.toArray⟩] 39)) wr.heap.size ((x_s, x_p, x_n, (x_v0, x_l0), (x_v1, x_l1), (x_v2, x_l2), (x_v3, x_l3)) : Atm) := box_new wr ((x_s, x_p, x_n, (x_v0, x_l0), (x_v1, x_l1), (x_v2, x_l2), (x_v3, x_l3)) : Atm) 39
      have hSx : Since w0 (wr.alloc (.cells #[.string ⟨x_s.toArray⟩, .string ⟨x_p.toArray⟩, .int .i64 x_n, .bool x_v0, .string ⟨x_l0.toArray⟩, .bool x_v1, .string ⟨x_l1.toArray⟩, .bool x_v2, .string ⟨x_l2.toArray⟩, .bool x_v3, .string ⟨x_l3.toArray⟩] 39)) := hSr.alloc _
      go_wp2_with fail
      generalize hw2 : (wr.alloc (.cells #[.string ⟨x_s.toArray⟩, .string ⟨x_p.toArray⟩, .int .i64 x_n, .bool x_v0, .string ⟨x_l0.toArray⟩, .bool x_v1, .string ⟨x_l1.toArray⟩, .bool x_v2, .string ⟨x_l2.toArray⟩, .bool x_v3, .string ⟨x_l3.toArray⟩] 39)) = w2 at *
      clear hw2 hv0 hown0 x_c0 x_c1 x_c2 x_c3 x_c4 x_c5 x_c6 x_c7 x_c8 x_c9 x_c10
      have hv2 : Cel w2.drew w0.heap.size #[.slice ha hl hc] 22 := hv1
      have hown : w2.drew.ownsRow (w0.heap.size + 1) 9 1 (.slice ha hl hc) H.length (H.map strV) := hown1.drew
      have hbx2 : Box w2.drew wr.heap.size ((x_s, x_p, x_n, (x_v0, x_l0), (x_v1, x_l1), (x_v2, x_l2), (x_v3, x_l3)) : Atm) := hbx
      have hS2 : Since w0 w2.drew := hSx.drew
      refine hx_begin (S := fun W => Since w0 W ∧ Box W wr.heap.size ((x_s, x_p, x_n, (x_v0, x_l0), (x_v1, x_l1), (x_v2, x_l2), (x_v3, x_l3)) : Atm)) (by kernel_rfl) ⟨hS2, hbx2⟩ (by kernel_rfl) (fun _ _ _ _ _ h => h) (fun hns hQ => ?_)
      refine hx_take (i := 1) (oi := _) (v := .agg #[.string ⟨x_s.toArray⟩, .string ⟨x_p.toArray⟩, .int .i64 x_n, .bool x_v0, .string ⟨x_l0.toArray⟩, .bool x_v1, .string ⟨x_l1.toArray⟩, .bool x_v2, .string ⟨x_l2.toArray⟩, .bool x_v3, .string ⟨x_l3.toArray⟩]) rfl rfl hns (by kernel_rfl) (by kernel_rfl) hQ (by kernel_rfl) (fun W hW => ld_atm _ _ rfl _ _ (by kernel_rfl) x_s x_p x_n x_v0 x_v1 x_v2 x_v3 x_l0 x_l1 x_l2 x_l3 W hW.2) ⟨hS2, hbx2⟩ ?_
      generalize w2.drew = w2 at *
      refine hx_two (i := 0) (j := 2) (oi := _) (oj := _) rfl rfl (by kernel_rfl) (by kernel_rfl) (by kernel_rfl) ?_ ?_
      · refine wp_value (v := .slice ha hl hc) rfl (ld_txts _ _ rfl _ w0.heap.size 0 (by kernel_rfl) _ _ _ w2 hv2.one) ⟨⟨hS2, hbx2⟩, ?_⟩
        refine hx_call (i := 2) (oi := _) 86 #[.agg #[.string ⟨x_s.toArray⟩, .string ⟨x_p.toArray⟩, .int .i64 x_n, .bool x_v0, .string ⟨x_l0.toArray⟩, .bool x_v1, .string ⟨x_l1.toArray⟩, .bool x_v2, .string ⟨x_l2.toArray⟩, .bool x_v3, .string ⟨x_l3.toArray⟩]] rfl rfl (by kernel_rfl) (by kernel_rfl) (by kernel_rfl) (vars_any x_s x_p x_n x_v0 x_v1 x_v2 x_v3 x_l0 x_l1 x_l2 x_l3 _) ?_
        rintro e w3 ⟨v3, rfl, hown3, hS3⟩
        obtain ⟨A3, c3, rfl, hrd⟩ := reads_own hown3
        have hv3 := hv2.next hS3
        have hbx4 : ∀ w4, w3.grownBy w4 (Value.slice ha hl hc).ownBlock → Box w4 wr.heap.size ((x_s, x_p, x_n, (x_v0, x_l0), (x_v1, x_l1), (x_v2, x_l2), (x_v3, x_l3)) : Atm) := fun w4 hg => box_grown (hbx2.next hS3) hg (fun e => absurd (hob _ e.symm) (Nat.lt_irrefl _))
        refine ⟨_, rfl, ⟨hS2.trans hS3, hbx2.next hS3⟩, ?_⟩
        refine hx_step (i := 3) (oi := _) rfl (by kernel_rfl) (by kernel_rfl) ?_
        refine wp_append_any _ (.tmp 14) (.tmp 16) 22 rfl (w0.heap.size + 1) 9 i0 (.string ByteArray.empty) 1 16 Tryd.underlying22 HI.out.1 HI.out.2.1 HI.out.2.2.1 HI.out.2.2.2 rfl (by decide) (.slice ha hl hc) H.length (H.map strV) (by kernel_rfl) (own_sinceF hown (hS3)) w3.heap.size A3 (namesA ((x_s, x_p, x_n, (x_v0, x_l0), (x_v1, x_l1), (x_v2, x_l2), (x_v3, x_l3)) : Atm) true).length c3 ((namesA ((x_s, x_p, x_n, (x_v0, x_l0), (x_v1, x_l1), (x_v2, x_l2), (x_v3, x_l3)) : Atm) true).map strV) (by kernel_rfl) hrd (fun u hu => by obtain ⟨_, _, rfl⟩ := List.mem_map.1 hu; rfl) (by unfold maxLen; omega) (by omega) (by have h1 := hS3.size; have h2 := hv2.lt; omega) ?_
        intro v4 w4 hown4 hg4 hb4
        change _ ∧ wpAnyH _ _ _ _ _ _ _ (Act.put _ (some 17) _) _
        rw [put_list]
        have hS4 : Since w0 w4 := Below.grown (hS2.trans hS3) hg4 (hS2.trans hS3).size (fun j hj => Nat.le_of_succ_le (own_ge hown j hj))
        have hc4 : Cel w4 w0.heap.size #[.slice ha hl hc] 22 := hv3.grown hg4 (fun e => absurd (own_ge hown _ e.symm) (by omega))
        have hx4 : Box w4 wr.heap.size ((x_s, x_p, x_n, (x_v0, x_l0), (x_v1, x_l1), (x_v2, x_l2), (x_v3, x_l3)) : Atm) := hbx4 w4 hg4
        refine ⟨⟨hS4, hx4⟩, ?_⟩
        obtain ⟨a4, c4, rfl, -⟩ := reads_own hown4
        refine hx_store (i := 4) (oi := _) (w4.setCell ⟨w0.heap.size, 0, none⟩ (.slice a4 (H.length + (namesA ((x_s, x_p, x_n, (x_v0, x_l0), (x_v1, x_l1), (x_v2, x_l2), (x_v3, x_l3)) : Atm) true).length) c4)) rfl rfl (by kernel_rfl) (by kernel_rfl) (st_txts _ _ _ rfl _ _ (by kernel_rfl) _ _ _ (by kernel_rfl) _ _ _ hc4) ⟨hS4.setCell (Nat.le_refl _) _, box_far hx4 (Nat.ne_of_lt hgr) _⟩ ?_
        refine wpAnyH_done (by kernel_rfl) ?_ _
        simp only [List.set_cons_zero, List.set_cons_succ]
        clear hns hQ
        have hS5 : Since w0 (w4.setCell ⟨w0.heap.size, 0, none⟩ (.slice a4 (H.length + (namesA ((x_s, x_p, x_n, (x_v0, x_l0), (x_v1, x_l1), (x_v2, x_l2), (x_v3, x_l3)) : Atm) true).length) c4)) := hS4.setCell (Nat.le_refl _) _
        have hc5 := hc4.set (j := 0) (u := .slice a4 (H.length + (namesA ((x_s, x_p, x_n, (x_v0, x_l0), (x_v1, x_l1), (x_v2, x_l2), (x_v3, x_l3)) : Atm) true).length) c4) rfl
        have ho5 := own_setF hown4 (.slice a4 (H.length + (namesA ((x_s, x_p, x_n, (x_v0, x_l0), (x_v1, x_l1), (x_v2, x_l2), (x_v3, x_l3)) : Atm) true).length) c4)
        have e5 : (H.map strV ++ (namesA ((x_s, x_p, x_n, (x_v0, x_l0), (x_v1, x_l1), (x_v2, x_l2), (x_v3, x_l3)) : Atm) true).map strV) = (haveF (L.take (k + 1))).map strV := by rw [← List.map_append, HMORE.out]
        have e6 : H.length + (namesA ((x_s, x_p, x_n, (x_v0, x_l0), (x_v1, x_l1), (x_v2, x_l2), (x_v3, x_l3)) : Atm) true).length = (haveF (L.take (k + 1))).length := by rw [← List.length_append, HMORE.out]
        rw [e5, e6] at ho5
        rw [e6] at hc5 hS5
        go_wp2_with fail
        go_roundw
        case rel => exact ⟨k + 1, by omega, by go_num, ⟨_, _, _, hc5, ho5⟩, hS5⟩
        case measure => simp [intOf]; omega
      · refine wp_calls 86 #[.agg #[.string ⟨x_s.toArray⟩, .string ⟨x_p.toArray⟩, .int .i64 x_n, .bool x_v0, .string ⟨x_l0.toArray⟩, .bool x_v1, .string ⟨x_l1.toArray⟩, .bool x_v2, .string ⟨x_l2.toArray⟩, .bool x_v3, .string ⟨x_l3.toArray⟩]] rfl (by kernel_rfl) (vars_any x_s x_p x_n x_v0 x_v1 x_v2 x_v3 x_l0 x_l1 x_l2 x_l3 _) ?_
        rintro e w3 ⟨v3, rfl, hown3, hS3⟩
        obtain ⟨A3, c3, rfl, hrd⟩ := reads_own hown3
        have hv3 := hv2.next hS3
        have hbx4 : ∀ w4, w3.grownBy w4 (Value.slice ha hl hc).ownBlock → Box w4 wr.heap.size ((x_s, x_p, x_n, (x_v0, x_l0), (x_v1, x_l1), (x_v2, x_l2), (x_v3, x_l3)) : Atm) := fun w4 hg => box_grown (hbx2.next hS3) hg (fun e => absurd (hob _ e.symm) (Nat.lt_irrefl _))
        refine ⟨_, rfl, ⟨hS2.trans hS3, hbx2.next hS3⟩, ?_⟩
        refine hx_make (i := 0) (oi := _) (.slice ha hl hc) w3 rfl rfl (by kernel_rfl) (by kernel_rfl) (ld_txts _ _ rfl _ w0.heap.size 0 (by kernel_rfl) _ _ _ w3 hv3.one) ⟨hS2.trans hS3, hbx2.next hS3⟩ ?_
        refine hx_step (i := 3) (oi := _) rfl (by kernel_rfl) (by kernel_rfl) ?_
        refine wp_append_any _ (.tmp 14) (.tmp 16) 22 rfl (w0.heap.size + 1) 9 i0 (.string ByteArray.empty) 1 16 Tryd.underlying22 HI.out.1 HI.out.2.1 HI.out.2.2.1 HI.out.2.2.2 rfl (by decide) (.slice ha hl hc) H.length (H.map strV) (by kernel_rfl) (own_sinceF hown (hS3)) w3.heap.size A3 (namesA ((x_s, x_p, x_n, (x_v0, x_l0), (x_v1, x_l1), (x_v2, x_l2), (x_v3, x_l3)) : Atm) true).length c3 ((namesA ((x_s, x_p, x_n, (x_v0, x_l0), (x_v1, x_l1), (x_v2, x_l2), (x_v3, x_l3)) : Atm) true).map strV) (by kernel_rfl) hrd (fun u hu => by obtain ⟨_, _, rfl⟩ := List.mem_map.1 hu; rfl) (by unfold maxLen; omega) (by omega) (by have h1 := hS3.size; have h2 := hv2.lt; omega) ?_
        intro v4 w4 hown4 hg4 hb4
        change _ ∧ wpAnyH _ _ _ _ _ _ _ (Act.put _ (some 17) _) _
        rw [put_list]
        have hS4 : Since w0 w4 := Below.grown (hS2.trans hS3) hg4 (hS2.trans hS3).size (fun j hj => Nat.le_of_succ_le (own_ge hown j hj))
        have hc4 : Cel w4 w0.heap.size #[.slice ha hl hc] 22 := hv3.grown hg4 (fun e => absurd (own_ge hown _ e.symm) (by omega))
        have hx4 : Box w4 wr.heap.size ((x_s, x_p, x_n, (x_v0, x_l0), (x_v1, x_l1), (x_v2, x_l2), (x_v3, x_l3)) : Atm) := hbx4 w4 hg4
        refine ⟨⟨hS4, hx4⟩, ?_⟩
        obtain ⟨a4, c4, rfl, -⟩ := reads_own hown4
        refine hx_store (i := 4) (oi := _) (w4.setCell ⟨w0.heap.size, 0, none⟩ (.slice a4 (H.length + (namesA ((x_s, x_p, x_n, (x_v0, x_l0), (x_v1, x_l1), (x_v2, x_l2), (x_v3, x_l3)) : Atm) true).length) c4)) rfl rfl (by kernel_rfl) (by kernel_rfl) (st_txts _ _ _ rfl _ _ (by kernel_rfl) _ _ _ (by kernel_rfl) _ _ _ hc4) ⟨hS4.setCell (Nat.le_refl _) _, box_far hx4 (Nat.ne_of_lt hgr) _⟩ ?_
        refine wpAnyH_done (by kernel_rfl) ?_ _
        simp only [List.set_cons_zero, List.set_cons_succ]
        clear hns hQ
        have hS5 : Since w0 (w4.setCell ⟨w0.heap.size, 0, none⟩ (.slice a4 (H.length + (namesA ((x_s, x_p, x_n, (x_v0, x_l0), (x_v1, x_l1), (x_v2, x_l2), (x_v3, x_l3)) : Atm) true).length) c4)) := hS4.setCell (Nat.le_refl _) _
        have hc5 := hc4.set (j := 0) (u := .slice a4 (H.length + (namesA ((x_s, x_p, x_n, (x_v0, x_l0), (x_v1, x_l1), (x_v2, x_l2), (x_v3, x_l3)) : Atm) true).length) c4) rfl
        have ho5 := own_setF hown4 (.slice a4 (H.length + (namesA ((x_s, x_p, x_n, (x_v0, x_l0), (x_v1, x_l1), (x_v2, x_l2), (x_v3, x_l3)) : Atm) true).length) c4)
        have e5 : (H.map strV ++ (namesA ((x_s, x_p, x_n, (x_v0, x_l0), (x_v1, x_l1), (x_v2, x_l2), (x_v3, x_l3)) : Atm) true).map strV) = (haveF (L.take (k + 1))).map strV := by rw [← List.map_append, HMORE.out]
        have e6 : H.length + (namesA ((x_s, x_p, x_n, (x_v0, x_l0), (x_v1, x_l1), (x_v2, x_l2), (x_v3, x_l3)) : Atm) true).length = (haveF (L.take (k + 1))).length := by rw [← List.length_append, HMORE.out]
        rw [e5, e6] at ho5
        rw [e6] at hc5 hS5
        go_wp2_with fail
        go_roundw
        case rel => exact ⟨k + 1, by omega, by go_num, ⟨_, _, _, hc5, ho5⟩, hS5⟩
        case measure => simp [intOf]; omega
    · have hlt2 : ¬ (k : Int) < (n : Int) := by omega
      have hkn : k = L.length := by have := hn.out; omega
      subst hkn
      rw [List.take_length] at hown0
      have hHl := have_len L
      have HT := Lib.hid (trow_own hown0)
      obtain ⟨a_c0, a_c1, a_c2, a_c3, a_c4, a_c5, a_c6, a_c7, a_c8, a_c9, a_c10⟩ := (a_B.next hSr).all
      clear hown0
      obtain ⟨H, hH⟩ : ∃ H, Hid (H = haveF L) := ⟨_, rfl⟩
      rw [← hH.out] at HT hHl
      obtain ⟨T, hT⟩ : ∃ T, Hid (T = (namesA ((a_s, a_p, a_n, (a_v0, a_l0), (a_v1, a_l1), (a_v2, a_l2), (a_v3, a_l3)) : Atm) true).any fun s => !(H.contains s)) := ⟨_, rfl⟩
      have hal := names_le ((a_s, a_p, a_n, (a_v0, a_l0), (a_v1, a_l1), (a_v2, a_l2), (a_v3, a_l3)) : Atm)
      go_wp2_with fail
      refine (vars_any a_s a_p a_n a_v0 a_v1 a_v2 a_v3 a_l0 a_l1 a_l2 a_l3 _).mono ?_
      rintro e w5 ⟨v5, rfl, hown5, hb5⟩
      have HC := Lib.hid (has_txt v5 (namesA ((a_s, a_p, a_n, (a_v0, a_l0), (a_v1, a_l1), (a_v2, a_l2), (a_v3, a_l3)) : Atm) true) H w0.heap.size ha hl hc w5 (trow_own hown5) (hb5.cell hv0.one) (tnext HT.out hb5) (by omega) (by omega))
      rw [← hT.out] at HC
      clear hown5 a_c0 a_c1 a_c2 a_c3 a_c4 a_c5 a_c6 a_c7 a_c8 a_c9 a_c10
      go_wp2_with fail
      refine HC.out.mono ?_
      rintro e w6 ⟨rfl, rfl⟩
      go_wp2_with fail
      refine (not_any T 9 _).mono ?_
      rintro e w7 ⟨v7, rfl, hv7, hb7⟩
      obtain ⟨g7, rfl, q1, q2⟩ := hv7
      go_wp2_with fail
      obtain ⟨E, hE⟩ : ∃ E : Int, Hid (E = if T then (9 : Int) else 0) := ⟨_, rfl⟩
      have HN := Lib.hid (not1_any g7 T 9 _ q1 q2)
      rw [← hE.out] at HN
      refine HN.out.mono ?_
      rintro e w8 ⟨rfl, hb8⟩
      go_wp2_with fail
      go_ret
      refine ⟨ret_int ?_, (((hS0.trans hSr).trans hb5).trans hb7).trans hb8⟩
      rw [hE.out, hT.out, hH.out]
      rfl
end Go.Proofs.YtpkggopaigledaaDoor
