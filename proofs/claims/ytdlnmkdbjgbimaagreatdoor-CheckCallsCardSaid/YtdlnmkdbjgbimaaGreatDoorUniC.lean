/- Package subst: what stands for a name (Get), a term under bindings (Term); the reference's Term. -/
import Derived.Test.YtdlnmkdbjgbimaaGreatDoorUniB
namespace Go.Proofs.YtdlnmkdbjgbimaaGreatDoor
open Go.RowKit

def fstB (f : Bnd → Bool) : List Bnd → Nat
  | [] => 0
  | b :: l => if f b then 0 else fstB f l + 1
theorem fstB_le (f : Bnd → Bool) : ∀ L : List Bnd, fstB f L ≤ L.length
  | [] => Nat.le_refl _
  | b :: l => by
    unfold fstB
    split
    · exact Nat.zero_le _
    · have := fstB_le f l; simp only [List.length_cons]; omega
theorem fstB_at {f : Bnd → Bool} : ∀ {L : List Bnd}, (∀ i j, (hj : j < L.length) → (h : i < j) → f L[i] = true → f L[j] = true) → ∀ {k : Nat}, (hk : k < L.length) → f L[k] = decide (fstB f L ≤ k)
  | [], _, k, hk => by simp at hk
  | b :: l, hm, k, hk => by
    unfold fstB
    by_cases hb : f b = true
    · rw [if_pos hb, decide_eq_true (Nat.zero_le _)]
      cases k with
      | zero => exact hb
      | succ k => exact hm 0 (k + 1) hk (Nat.succ_pos _) hb
    · rw [if_neg hb]
      cases k with
      | zero => rw [Bool.not_eq_true] at hb; rw [decide_eq_false (by omega)]; exact hb
      | succ k =>
        have := fstB_at (f := f) (L := l) (fun i j hj h hi => hm (i + 1) (j + 1) (by simpa using hj) (by omega) hi) (k := k) (by simpa using hk)
        have hk' : k < l.length := by simpa using hk
        show f (l[k]'hk') = _
        rw [this, Bool.eq_iff_iff, decide_eq_true_eq, decide_eq_true_eq]
        omega
theorem fstB_off {f : Bnd → Bool} : ∀ {L : List Bnd} {k : Nat}, (hk : k < L.length) → k < fstB f L → f L[k] = false
  | [], k, hk, _ => by simp at hk
  | b :: l, k, hk, h => by
    unfold fstB at h
    split at h
    · omega
    · rename_i hb
      cases k with
      | zero => rw [Bool.not_eq_true] at hb; exact hb
      | succ k => exact fstB_off (L := l) (by simpa using hk) (by omega)
theorem rises_lt : ∀ {L : List Bnd} {i j : Nat}, Rises L → (hj : j < L.length) → (h : i < j) → L[i].1 < L[j].1
  | L, i, j + 1, hr, hj, h => by
    have h1 := rises_at hr hj
    by_cases he : i = j
    · subst he; exact h1
    · exact List.lt_trans (rises_lt hr (by omega) (by omega)) h1
def geB (s : List UInt8) (b : Bnd) : Bool := !Op.bytesLess b.1 s
theorem geB_mono {L : List Bnd} (hr : Rises L) (s : List UInt8) : ∀ i j, (hj : j < L.length) → (h : i < j) → geB s L[i] = true → geB s L[j] = true := by
  intro i j hj h hi
  unfold geB at hi ⊢
  rw [less_lt] at hi ⊢
  simp only [Bool.not_eq_true', decide_eq_false_iff_not] at hi ⊢
  exact fun h2 => hi (List.lt_trans (rises_lt hr hj h) h2)
theorem getB_skip {L : List Bnd} (s : List UInt8) : ∀ (n : Nat), n ≤ L.length → n ≤ fstB (geB s) L → getB (L.drop n) s = getB L s
  | 0, _, _ => rfl
  | n + 1, h1, h2 => by
    have ih := getB_skip (L := L) s n (by omega) (by omega)
    rw [← ih, getB_step (L := L) (k := n) (by omega)]
    have hf := fstB_off (f := geB s) (L := L) (k := n) (by omega) (by omega)
    unfold geB at hf
    rw [less_lt] at hf
    simp only [Bool.not_eq_false', decide_eq_true_eq] at hf
    rw [if_neg]
    intro he
    rw [beq_iff_eq] at he
    rw [he] at hf
    exact List.lt_irrefl _ hf
set_option maxHeartbeats 1000000 in
theorem get1_any (a : Option Addr) (c B1 B2 : Nat) (L : List Bnd) (s : List UInt8) (k : Nat) (W : World) (h1 : W.cell? ⟨B1, 0, none⟩ = some (.slice a L.length c)) (h2 : W.cell? ⟨B2, 0, none⟩ = some (.string ⟨s.toArray⟩)) (hv : RowOf 3 bndC W (.slice a L.length c) L) (hk : k < L.length) :
    Calls Tryz.prog 85 #[.int .i64 (k : Int), .pointer (some ⟨B1, 0, none⟩), .pointer (some ⟨B2, 0, none⟩)] W fun e w' => e = .returned (.bool (geB s L[k])) ∧ Since W w' := by
  obtain ⟨b, o, he, _, hc, hat⟩ := bnd_get hv (by omega)
  cases he
  obtain ⟨d0, d1, d2⟩ := hat k hk
  have hg2 : (k : Int) < (L.length : Int) := by omega
  unfold geB
  clear hat hv
  generalize L[k] = x at *
  obtain ⟨xs, xv, xt⟩ := x
  simp only at d0 d1 d2
  go_enter Tryz.func85, Tryz.ntmps85
  go_wp2_with fail
  go_quiet (fail)
  go_wp2_with fail
  go_ret
  exact ⟨rfl, (Since.refl _).drewN _⟩
set_option maxHeartbeats 2000000 in
set_option maxRecDepth 100000 in
theorem get_any (v : Value) (L : List Bnd) (s : List UInt8) (w : World) (hv : RowOf 3 bndC w v L) (hr : Rises L) (hm : L.length ≤ 1000000) :
    Calls Tryz.prog 67 #[v, .string ⟨s.toArray⟩] w fun e w' => e = .returned (gtV (getB L s)) ∧ Since w w' := by
  obtain ⟨a, c, rfl⟩ := hv.form
  have HV := Lib.hid hv
  obtain ⟨R, hR⟩ : ∃ R, Hid (R = gtV (getB L s)) := ⟨_, rfl⟩
  obtain ⟨r, hr0⟩ : ∃ r, Hid (r = fstB (geB s) L) := ⟨_, rfl⟩
  have hrl : r ≤ L.length := by rw [hr0.out]; exact fstB_le _ _
  have hR0 : Hid (R = gtV (getB (L.drop r) s)) := by
    show _ = _
    rw [hR.out, getB_skip s r hrl (by rw [hr0.out]; exact Nat.le_refl _)]
  have hS1 : Since w (((w.alloc (.cells #[.slice a L.length c] 86)).alloc (.cells #[.string ⟨s.toArray⟩] 9)).alloc (.cells #[.bool false, .string ⟨#[]⟩] 26)) := (((Since.refl _).alloc _).alloc _).alloc _
  have hC1 : Cel (w.alloc (.cells #[.slice a L.length c] 86)) w.heap.size #[.slice a L.length c] 86 := heap_alloc_new w _
  have hC2 : Cel ((w.alloc (.cells #[.slice a L.length c] 86)).alloc (.cells #[.string ⟨s.toArray⟩] 9)) (w.heap.size + 1) #[.string ⟨s.toArray⟩] 9 := by
    have h := heap_alloc_new (w.alloc (.cells #[.slice a L.length c] 86)) (.cells #[.string ⟨s.toArray⟩] 9)
    rw [World.size_alloc] at h
    exact h
  have hC3 : Cel (((w.alloc (.cells #[.slice a L.length c] 86)).alloc (.cells #[.string ⟨s.toArray⟩] 9)).alloc (.cells #[.bool false, .string ⟨#[]⟩] 26)) (w.heap.size + 2) #[.bool false, .string ⟨#[]⟩] 26 := by
    have h := heap_alloc_new ((w.alloc (.cells #[.slice a L.length c] 86)).alloc (.cells #[.string ⟨s.toArray⟩] 9)) (.cells #[.bool false, .string ⟨#[]⟩] 26)
    rw [World.size_alloc, World.size_alloc] at h
    exact h
  have hC1' := hC1.next (((Since.refl _).alloc (.cells #[.string ⟨s.toArray⟩] 9)).alloc (.cells #[.bool false, .string ⟨#[]⟩] 26))
  have hC2' := hC2.next ((Since.refl _).alloc (.cells #[.bool false, .string ⟨#[]⟩] 26))
  clear hC1 hC2
  have HRI := Lib.hid (fun W (h : RowOf 3 bndC W (.slice a L.length c) L) => rises_any (.slice a L.length c) L W h hr hm)
  have HFB := Lib.hid (fun k (hk : k < L.length) => fstB_at (geB_mono hr s) hk)
  rw [← hr0.out] at HFB
  rw [← hR.out]
  clear hv hR hr hr0
  go_enter Tryz.func67, Tryz.ntmps67
  go_wp2_with fail
  generalize ((w.alloc (.cells #[.slice a L.length c] 86)).alloc (.cells #[.string ⟨s.toArray⟩] 9)).alloc (.cells #[.bool false, .string ⟨#[]⟩] 26) = w1 at *
  have K1 := Lib.hid hC1'
  have K2 := Lib.hid hC2'
  have K3 := Lib.hid hC3
  clear hC1' hC2' hC3
  refine (HRI.out _ (HV.out.next hS1)).mono ?_
  rintro e w2 ⟨rfl, hb⟩
  replace K1 := Lib.hid (K1.out.next hb)
  replace K2 := Lib.hid (K2.out.next hb)
  replace K3 := Lib.hid (K3.out.next hb)
  have hS := hS1.trans hb
  have c1 := K1.out.one
  have c2 := K2.out.one
  clear HRI hS1 hb
  go_wp2_with fail
  refine (search_get w.heap.size (w.heap.size + 1) L.length r _ hrl hm ?_).mono ?_
  · intro W k hW hk
    have h := get1_any a c w.heap.size (w.heap.size + 1) L s k W (K1.out.next hW).one (K2.out.next hW).one (HV.out.next (hS.trans hW)) hk
    rw [HFB.out k hk] at h
    exact h
  rintro e w3 ⟨rfl, hb⟩
  replace K1 := Lib.hid (K1.out.next hb)
  replace K2 := Lib.hid (K2.out.next hb)
  replace K3 := Lib.hid (K3.out.next hb)
  replace hS := hS.trans hb
  clear c1 c2 hb HFB
  go_wp2_with fail
  go_loopw [6] (fun i wr => ∃ k : Nat, k ≤ L.length ∧ i = .int .i64 (k : Int) ∧ Since w wr ∧ Hid (Cel wr w.heap.size #[.slice a L.length c] 86) ∧ Hid (Cel wr (w.heap.size + 1) #[.string ⟨s.toArray⟩] 9) ∧ Hid (Cel wr (w.heap.size + 2) #[.bool false, .string ⟨#[]⟩] 26) ∧ Hid (R = gtV (getB (L.drop k) s))) (fun i _ => L.length - (intOf i).toNat)
  case atStart => exact ⟨r, by omega, rfl, hS, K1.out, K2.out, K3.out, hR0.out⟩
  case round =>
    clear hR0 K1 K2 K3 hS
    obtain ⟨k, hk, rfl, hS, K1, K2, K3, hres⟩ := hrel
    have c1 := K1.out.one
    have c2 := K2.out.one
    have hw0 : w.heap.size + 2 < wr.heap.size := K3.out.lt
    by_cases hlt : k < L.length
    · obtain ⟨b, o, he, _, hc, hat⟩ := bnd_get (HV.out.next hS) (by omega)
      cases he
      obtain ⟨d0, d1, d2⟩ := hat k hlt
      have hst := getB_step hlt s
      have hg2 : (k : Int) < (L.length : Int) := by omega
      have HST := Lib.hid hst
      clear hat hst
      generalize L[k] = x at *
      obtain ⟨xs, xv, xt⟩ := x
      simp only at d0 d1 d2 HST
      cases he : (xs == s)
      · have hnx : Hid (R = gtV (getB (L.drop (k + 1)) s)) := by
          show _ = _
          rw [hres.out, HST.out, he]; rfl
        clear HST hres
        go_wp2_with fail
        go_quiet (fail)
        go_wp2_with fail
        go_roundw
        case rel => exact ⟨k + 1, by omega, by go_num, hS.drewN _, K1.out, K2.out, K3.out, hnx.out⟩
        case measure => simp [intOf]; omega
      · have hnx : Hid (R = gtV (some (xv, xt))) := by
          show _ = _
          rw [hres.out, HST.out, he]; rfl
        clear HST hres
        go_wp2_with fail
        go_quiet (fail)
        have K3d : Cel (wr.drewN nq) (w.heap.size + 2) #[.bool false, .string ⟨#[]⟩] 26 := K3.out
        obtain ⟨z0, z1⟩ := K3d.two
        have hfr := K3d.free
        have hC2 : Cel (((wr.drewN nq).setCell ⟨w.heap.size + 2, 0, none⟩ (.bool xv)).setCell ⟨w.heap.size + 2, 1, none⟩ (.string ⟨xt.toArray⟩)) (w.heap.size + 2) #[.bool xv, .string ⟨xt.toArray⟩] 26 := (K3d.set (ds := #[.bool xv, .string ⟨#[]⟩]) rfl).set rfl
        obtain ⟨e0, e1⟩ := hC2.two
        have hSd := hS.drewN nq
        go_wp2_with fail
        refine bodyPost_ret (v := .tuple #[.agg #[.bool xv, .string ⟨xt.toArray⟩], .bool true]) (by simp [results, Tryz.results67, go_sem, e0, e1]) rfl ?_
        exact ⟨by rw [hnx.out]; rfl, (hSd.setCell (show w.heap.size ≤ w.heap.size + 1 + 1 by omega) _).setCell (show w.heap.size ≤ w.heap.size + 1 + 1 by omega) _⟩
    · have hnx : Hid (R = gtV none) := by
        show _ = _
        rw [hres.out, getB_end hlt]
      clear hres
      have hlt2 : ¬ (k : Int) < (L.length : Int) := by omega
      obtain ⟨z0, z1⟩ := K3.out.two
      have hfr := K3.out.free
      have hC2 : Cel ((wr.setCell ⟨w.heap.size + 2, 0, none⟩ (.bool false)).setCell ⟨w.heap.size + 2, 1, none⟩ (.string ⟨#[]⟩)) (w.heap.size + 2) #[.bool false, .string ⟨#[]⟩] 26 := (K3.out.set (ds := #[.bool false, .string ⟨#[]⟩]) rfl).set rfl
      obtain ⟨e0, e1⟩ := hC2.two
      go_wp2_with fail
      refine bodyPost_ret (v := .tuple #[.agg #[.bool false, .string ⟨#[]⟩], .bool false]) (by simp [results, Tryz.results67, go_sem, e0, e1]) rfl ?_
      exact ⟨by rw [hnx.out]; rfl, (hS.setCell (show w.heap.size ≤ w.heap.size + 1 + 1 by omega) _).setCell (show w.heap.size ≤ w.heap.size + 1 + 1 by omega) _⟩
end Go.Proofs.YtdlnmkdbjgbimaaGreatDoor
