/- Bindings in memory; what package subst tells of them: rising, what stands for a name, a term under them; sort.Search. sort.Search at the two closures of package subst; what stands for a name (Get). Package subst: what stands for a name (Get), a term under bindings (Term); the reference's Term. Package subst and the reference: a term under bindings, is a binding of a variable to itself, and what may be. Bindings that may be: both Checks tell 0. Bindings under bindings (under). Bindings with one more (with). Package subst: binding a variable (Bind), where it may be. -/
import Derived.Test.YtohcehjpdmhjlaaDoorUniQ
import Derived.Test.YtohcehjpdmhjlaaDoorRow
import Derived.Test.YtohcehjpdmhjlaaDoorCel
import Derived.Sort.Walk0
import Derived.Deep.RegionHeld3
import Derived.Deep.QuietTactic
import Derived.BigQuiet
import Derived.Test.YtohcehjpdmhjlaaDoorAppendOwn
import Derived.Deep.RegionLawGrows
namespace Go.Proofs.YtohcehjpdmhjlaaDoor
open Go.RowKit

theorem less_lt (x y : List UInt8) : Op.bytesLess x y = decide (x < y) := bytesLess_eq x y
/-- A binding's three cells. -/
def bndC (b : Bnd) : List Value := [.string ⟨b.1.toArray⟩, .bool b.2.1, .string ⟨b.2.2.toArray⟩]
theorem bndC_len (b : Bnd) : (bndC b).length = 3 := rfl
def BndAt (W : World) (b o : Nat) (x : Bnd) : Prop :=
  W.cell? ⟨b, o, none⟩ = some (.string ⟨x.1.toArray⟩) ∧ W.cell? ⟨b, o + 1, none⟩ = some (.bool x.2.1) ∧ W.cell? ⟨b, o + 2, none⟩ = some (.string ⟨x.2.2.toArray⟩)
theorem BndAt.next {W W' : World} {b o : Nat} {x : Bnd} (h : BndAt W b o x) (hs : Since W W') : BndAt W' b o x := ⟨hs.cell h.1, hs.cell h.2.1, hs.cell h.2.2⟩
theorem bnd_get {W : World} {a : Option Addr} {n c : Nat} {L : List Bnd} (h : RowOf 3 bndC W (.slice a n c) L) (h0 : 0 < L.length) : ∃ b o, a = some ⟨b, o, none⟩ ∧ n = L.length ∧ n ≤ c ∧ ∀ k, (hk : k < L.length) → BndAt W b (o + k * 3) L[k] := by
  obtain ⟨a', c', h1, h2, h3, h4⟩ := h
  injection h1 with h1 h5 h6
  subst h1 h5 h6
  obtain ⟨b, o, rfl, hc⟩ := h4 h0
  exact ⟨b, o, rfl, rfl, h2, fun k hk => ⟨hc k hk 0 _ rfl, hc k hk 1 _ rfl, hc k hk 2 _ rfl⟩⟩
theorem rises_at : ∀ {L : List Bnd} {k : Nat}, Rises L → (h : k + 1 < L.length) → L[k].1 < L[k + 1].1
  | [], _, _, h => by simp at h
  | [a], _, _, h => by simp at h
  | a :: b :: r, 0, hr, h => hr.1
  | a :: b :: r, k + 1, hr, h => rises_at (L := b :: r) hr.2 (by simpa using h)
set_option maxHeartbeats 1000000 in
set_option maxRecDepth 100000 in
theorem rises_any (v : Value) (L : List Bnd) (w : World) (hv : RowOf 3 bndC w v L) (hR : Rises L) (hm : L.length ≤ 1000000) :
    Calls Tryd.prog 58 #[v] w fun e w' => e = .returned (.bool true) ∧ Since w w' := by
  obtain ⟨a, c, rfl⟩ := hv.form
  have HV := Lib.hid hv
  have HR := Lib.hid hR
  clear hv hR
  go_enter Tryd.func58, Tryd.ntmps58
  go_wp2_with fail
  go_loopw [3, 6] (fun _ i wr => ∃ k : Nat, k ≤ L.length ∧ i = .int .i64 (k : Int) ∧ Since w wr) (fun _ i _ => L.length - (intOf i).toNat)
  case atStart => exact ⟨0, by omega, rfl, Since.refl _⟩
  case round =>
    obtain ⟨k, hk, rfl, hS⟩ := hrel
    by_cases hlt : k < L.length
    · cases k with
      | zero =>
        have h0 : decide ((0 : Int) < 0) = false := rfl
        go_wp2_with fail
        go_quiet (fail)
        go_wp2_with fail
        go_roundw
        case rel => exact ⟨1, by omega, by go_num, hS.drewN _⟩
        case measure => simp [intOf]; omega
      | succ m =>
        obtain ⟨b, o, he, _, hc, hat⟩ := bnd_get (HV.out.next hS) (by omega)
        cases he
        have hx := (hat m (by omega)).1
        have hy := (hat (m + 1) hlt).1
        have hst := rises_at HR.out hlt
        clear hat
        generalize L[m] = x at *
        generalize L[m + 1] = y at *
        obtain ⟨xs, xt⟩ := x
        obtain ⟨ys, yt⟩ := y
        have hst2 : Op.bytesLess xs ys = true := (less_lt xs ys).trans (decide_eq_true hst)
        have hg0 : decide ((0 : Int) < (m : Int) + 1) = true := decide_eq_true (by omega)
        have hg1 : IntKind.i64.wrap ((m : Int) + 1 - 1) = (m : Int) := by rw [IntWalk.i64_in _ (by omega)]; omega
        have hg5 : IntKind.i64.wrap (m : Int) = (m : Int) := IntWalk.i64_in _ (by omega)
        have hg6 : (0 : Int) ≤ (m : Int) := by omega
        have hg2 : (m : Int) < (L.length : Int) := by omega
        have hg3 : (m : Int) + 1 < (L.length : Int) := by omega
        have hg4 : (0 : Int) ≤ (m : Int) + 1 := by omega
        simp only at hx hy hst hst2
        go_wp2_with fail
        go_quiet (fail)
        go_wp2_with fail
        go_roundw
        case rel => exact ⟨m + 1 + 1, by omega, by go_num, hS.drewN _⟩
        case measure => simp [intOf]; omega
    · go_wp2_with fail
      go_ret
      exact ⟨rfl, hS⟩
theorem getB_step {L : List Bnd} {k : Nat} (h : k < L.length) (s : List UInt8) : getB (L.drop k) s = if L[k].1 == s then some L[k].2 else getB (L.drop (k + 1)) s := by
  rw [List.drop_eq_getElem_cons h, getB]
  by_cases he : L[k].1 = s
  · rw [if_pos he, if_pos (by simpa using he)]
  · rw [if_neg he, if_neg (by simpa using he)]
theorem getB_end {L : List Bnd} {k : Nat} (h : ¬ k < L.length) (s : List UInt8) : getB (L.drop k) s = none := by
  rw [List.drop_eq_nil_of_le (by omega)]; rfl
def gtV : Option Tm → Value
  | some t => .tuple #[.agg #[.bool t.1, .string ⟨t.2.toArray⟩], .bool true]
  | none => .tuple #[.agg #[.bool false, .string ⟨#[]⟩], .bool false]
end Go.Proofs.YtohcehjpdmhjlaaDoor

namespace Go.Proofs.YtohcehjpdmhjlaaDoor
open Go.RowKit

set_option maxHeartbeats 1000000 in
set_option maxRecDepth 100000 in
theorem search_get (B1 B2 n r : Nat) (w : World) (hr : r ≤ n) (hn : n ≤ 1000000)
    (hf : ∀ W (k : Nat), Since w W → k < n → Calls Tryd.prog 60 #[.int .i64 (k : Int), .pointer (some ⟨B1, 0, none⟩), .pointer (some ⟨B2, 0, none⟩)] W fun e w' => e = .returned (.bool (decide (r ≤ k))) ∧ Since W w') :
    Calls Tryd.prog 59 #[.int .i64 (n : Int), .func (.func 60) #[] #[.pointer (some ⟨B1, 0, none⟩), .pointer (some ⟨B2, 0, none⟩)]] w fun e w' => e = .returned (.int .i64 (r : Int)) ∧ Since w w' := by
  have HF := Lib.hid hf
  clear hf
  go_enter Tryd.func59, Tryd.ntmps59
  go_wp2_with fail
  go_loopw [5, 6] (fun i j wr => ∃ p q : Nat, p ≤ r ∧ r ≤ q ∧ q ≤ n ∧ i = .int .i64 (p : Int) ∧ j = .int .i64 (q : Int) ∧ Since w wr) (fun i j _ => (intOf j).toNat - (intOf i).toNat)
  case atStart => exact ⟨0, n, by omega, by omega, by omega, rfl, rfl, Since.refl _⟩
  case round =>
    obtain ⟨p, q, hp, hq, hqn, rfl, rfl, hS⟩ := hrel
    by_cases hlt : p < q
    · have hlt2 : (p : Int) < (q : Int) := by omega
      obtain ⟨h, hh⟩ : ∃ h, Hid (h = (p + q) / 2) := ⟨_, rfl⟩
      have hh1 := hh.out
      have hk := HF.out wr h hS (by omega)
      have hhi : (h : Int) = ((p : Int) + (q : Int)) / 2 := by omega
      rw [hhi] at hk
      have HH := Lib.hid hhi
      have HK := Lib.hid hk
      clear hk hhi
      have e1 : IntKind.i64.wrap ((p : Int) + (q : Int)) = (p : Int) + (q : Int) := IntWalk.i64_in _ (by omega)
      have e2 : IntKind.u64.wrap ((p : Int) + (q : Int)) = (p : Int) + (q : Int) := IntWalk.u64_in _ (by omega)
      cases hd : decide (r ≤ h)
      · rw [hd] at HK
        have hd2 := of_decide_eq_false hd
        go_wp2_with fail
        refine HK.out.mono ?_
        rintro e w2 ⟨rfl, hb⟩
        go_wp2_with fail
        go_roundw
        case rel => exact ⟨h + 1, q, by omega, hq, hqn, by have := HH.out; simp; omega, rfl, hS.trans hb⟩
        case measure => have := HH.out; simp [intOf]; omega
      · rw [hd] at HK
        have hd2 := of_decide_eq_true hd
        go_wp2_with fail
        refine HK.out.mono ?_
        rintro e w2 ⟨rfl, hb⟩
        go_wp2_with fail
        go_roundw
        case rel => exact ⟨p, h, hp, hd2, by omega, rfl, by rw [HH.out], hS.trans hb⟩
        case measure => have := HH.out; simp [intOf]; omega
    · have hlt2 : ¬ (p : Int) < (q : Int) := by omega
      go_wp2_with fail
      go_ret
      exact ⟨ret_int (by omega), hS⟩
set_option maxHeartbeats 1000000 in
set_option maxRecDepth 100000 in
theorem search_with (B1 B2 n r : Nat) (w : World) (hr : r ≤ n) (hn : n ≤ 1000000)
    (hf : ∀ W (k : Nat), Since w W → k < n → Calls Tryd.prog 61 #[.int .i64 (k : Int), .pointer (some ⟨B1, 0, none⟩), .pointer (some ⟨B2, 0, none⟩)] W fun e w' => e = .returned (.bool (decide (r ≤ k))) ∧ Since W w') :
    Calls Tryd.prog 59 #[.int .i64 (n : Int), .func (.func 61) #[] #[.pointer (some ⟨B1, 0, none⟩), .pointer (some ⟨B2, 0, none⟩)]] w fun e w' => e = .returned (.int .i64 (r : Int)) ∧ Since w w' := by
  have HF := Lib.hid hf
  clear hf
  go_enter Tryd.func59, Tryd.ntmps59
  go_wp2_with fail
  go_loopw [5, 6] (fun i j wr => ∃ p q : Nat, p ≤ r ∧ r ≤ q ∧ q ≤ n ∧ i = .int .i64 (p : Int) ∧ j = .int .i64 (q : Int) ∧ Since w wr) (fun i j _ => (intOf j).toNat - (intOf i).toNat)
  case atStart => exact ⟨0, n, by omega, by omega, by omega, rfl, rfl, Since.refl _⟩
  case round =>
    obtain ⟨p, q, hp, hq, hqn, rfl, rfl, hS⟩ := hrel
    by_cases hlt : p < q
    · have hlt2 : (p : Int) < (q : Int) := by omega
      obtain ⟨h, hh⟩ : ∃ h, Hid (h = (p + q) / 2) := ⟨_, rfl⟩
      have hh1 := hh.out
      have hk := HF.out wr h hS (by omega)
      have hhi : (h : Int) = ((p : Int) + (q : Int)) / 2 := by omega
      rw [hhi] at hk
      have HH := Lib.hid hhi
      have HK := Lib.hid hk
      clear hk hhi
      have e1 : IntKind.i64.wrap ((p : Int) + (q : Int)) = (p : Int) + (q : Int) := IntWalk.i64_in _ (by omega)
      have e2 : IntKind.u64.wrap ((p : Int) + (q : Int)) = (p : Int) + (q : Int) := IntWalk.u64_in _ (by omega)
      cases hd : decide (r ≤ h)
      · rw [hd] at HK
        have hd2 := of_decide_eq_false hd
        go_wp2_with fail
        refine HK.out.mono ?_
        rintro e w2 ⟨rfl, hb⟩
        go_wp2_with fail
        go_roundw
        case rel => exact ⟨h + 1, q, by omega, hq, hqn, by have := HH.out; simp; omega, rfl, hS.trans hb⟩
        case measure => have := HH.out; simp [intOf]; omega
      · rw [hd] at HK
        have hd2 := of_decide_eq_true hd
        go_wp2_with fail
        refine HK.out.mono ?_
        rintro e w2 ⟨rfl, hb⟩
        go_wp2_with fail
        go_roundw
        case rel => exact ⟨p, h, hp, hd2, by omega, rfl, by rw [HH.out], hS.trans hb⟩
        case measure => have := HH.out; simp [intOf]; omega
    · have hlt2 : ¬ (p : Int) < (q : Int) := by omega
      go_wp2_with fail
      go_ret
      exact ⟨ret_int (by omega), hS⟩
end Go.Proofs.YtohcehjpdmhjlaaDoor

namespace Go.Proofs.YtohcehjpdmhjlaaDoor
open Go.RowKit

def fstB (f : Bnd → Bool) : List Bnd → Nat
  | [] => 0
  | b :: l => if f b then 0 else fstB f l + 1
theorem fstB_le (f : Bnd → Bool) : ∀ L : List Bnd, fstB f L ≤ L.length
  | [] => Nat.le_refl _
  | b :: l => by
    unfold fstB
    split
    · exact Nat.zero_le _
    · have := fstB_le f l; simp only [List.length_cons]; omega
theorem fstB_at {f : Bnd → Bool} : ∀ {L : List Bnd}, (∀ i j, (hj : j < L.length) → (h : i < j) → f L[i] = true → f L[j] = true) → ∀ {k : Nat}, (hk : k < L.length) → f L[k] = decide (fstB f L ≤ k)
  | [], _, k, hk => by simp at hk
  | b :: l, hm, k, hk => by
    unfold fstB
    by_cases hb : f b = true
    · rw [if_pos hb, decide_eq_true (Nat.zero_le _)]
      cases k with
      | zero => exact hb
      | succ k => exact hm 0 (k + 1) hk (Nat.succ_pos _) hb
    · rw [if_neg hb]
      cases k with
      | zero => rw [Bool.not_eq_true] at hb; rw [decide_eq_false (by omega)]; exact hb
      | succ k =>
        have := fstB_at (f := f) (L := l) (fun i j hj h hi => hm (i + 1) (j + 1) (by simpa using hj) (by omega) hi) (k := k) (by simpa using hk)
        have hk' : k < l.length := by simpa using hk
        show f (l[k]'hk') = _
        rw [this, Bool.eq_iff_iff, decide_eq_true_eq, decide_eq_true_eq]
        omega
theorem fstB_off {f : Bnd → Bool} : ∀ {L : List Bnd} {k : Nat}, (hk : k < L.length) → k < fstB f L → f L[k] = false
  | [], k, hk, _ => by simp at hk
  | b :: l, k, hk, h => by
    unfold fstB at h
    split at h
    · omega
    · rename_i hb
      cases k with
      | zero => rw [Bool.not_eq_true] at hb; exact hb
      | succ k => exact fstB_off (L := l) (by simpa using hk) (by omega)
theorem rises_lt : ∀ {L : List Bnd} {i j : Nat}, Rises L → (hj : j < L.length) → (h : i < j) → L[i].1 < L[j].1
  | L, i, j + 1, hr, hj, h => by
    have h1 := rises_at hr hj
    by_cases he : i = j
    · subst he; exact h1
    · exact List.lt_trans (rises_lt hr (by omega) (by omega)) h1
def geB (s : List UInt8) (b : Bnd) : Bool := !Op.bytesLess b.1 s
theorem geB_mono {L : List Bnd} (hr : Rises L) (s : List UInt8) : ∀ i j, (hj : j < L.length) → (h : i < j) → geB s L[i] = true → geB s L[j] = true := by
  intro i j hj h hi
  unfold geB at hi ⊢
  rw [less_lt] at hi ⊢
  simp only [Bool.not_eq_true', decide_eq_false_iff_not] at hi ⊢
  exact fun h2 => hi (List.lt_trans (rises_lt hr hj h) h2)
theorem getB_skip {L : List Bnd} (s : List UInt8) : ∀ (n : Nat), n ≤ L.length → n ≤ fstB (geB s) L → getB (L.drop n) s = getB L s
  | 0, _, _ => rfl
  | n + 1, h1, h2 => by
    have ih := getB_skip (L := L) s n (by omega) (by omega)
    rw [← ih, getB_step (L := L) (k := n) (by omega)]
    have hf := fstB_off (f := geB s) (L := L) (k := n) (by omega) (by omega)
    unfold geB at hf
    rw [less_lt] at hf
    simp only [Bool.not_eq_false', decide_eq_true_eq] at hf
    rw [if_neg]
    intro he
    rw [beq_iff_eq] at he
    rw [he] at hf
    exact List.lt_irrefl _ hf
set_option maxHeartbeats 1000000 in
theorem get1_any (a : Option Addr) (c B1 B2 : Nat) (L : List Bnd) (s : List UInt8) (k : Nat) (W : World) (h1 : W.cell? ⟨B1, 0, none⟩ = some (.slice a L.length c)) (h2 : W.cell? ⟨B2, 0, none⟩ = some (.string ⟨s.toArray⟩)) (hv : RowOf 3 bndC W (.slice a L.length c) L) (hk : k < L.length) :
    Calls Tryd.prog 60 #[.int .i64 (k : Int), .pointer (some ⟨B1, 0, none⟩), .pointer (some ⟨B2, 0, none⟩)] W fun e w' => e = .returned (.bool (geB s L[k])) ∧ Since W w' := by
  obtain ⟨b, o, he, _, hc, hat⟩ := bnd_get hv (by omega)
  cases he
  obtain ⟨d0, d1, d2⟩ := hat k hk
  have hg2 : (k : Int) < (L.length : Int) := by omega
  unfold geB
  clear hat hv
  generalize L[k] = x at *
  obtain ⟨xs, xv, xt⟩ := x
  simp only at d0 d1 d2
  go_enter Tryd.func60, Tryd.ntmps60
  go_wp2_with fail
  go_quiet (fail)
  go_wp2_with fail
  go_ret
  exact ⟨rfl, (Since.refl _).drewN _⟩
set_option maxHeartbeats 2000000 in
set_option maxRecDepth 100000 in
theorem get_any (v : Value) (L : List Bnd) (s : List UInt8) (w : World) (hv : RowOf 3 bndC w v L) (hr : Rises L) (hm : L.length ≤ 1000000) :
    Calls Tryd.prog 44 #[v, .string ⟨s.toArray⟩] w fun e w' => e = .returned (gtV (getB L s)) ∧ Since w w' := by
  obtain ⟨a, c, rfl⟩ := hv.form
  have HV := Lib.hid hv
  obtain ⟨R, hR⟩ : ∃ R, Hid (R = gtV (getB L s)) := ⟨_, rfl⟩
  obtain ⟨r, hr0⟩ : ∃ r, Hid (r = fstB (geB s) L) := ⟨_, rfl⟩
  have hrl : r ≤ L.length := by rw [hr0.out]; exact fstB_le _ _
  have hR0 : Hid (R = gtV (getB (L.drop r) s)) := by
    show _ = _
    rw [hR.out, getB_skip s r hrl (by rw [hr0.out]; exact Nat.le_refl _)]
  have hS1 : Since w (((w.alloc (.cells #[.slice a L.length c] 41)).alloc (.cells #[.string ⟨s.toArray⟩] 9)).alloc (.cells #[.bool false, .string ⟨#[]⟩] 23)) := (((Since.refl _).alloc _).alloc _).alloc _
  have hC1 : Cel (w.alloc (.cells #[.slice a L.length c] 41)) w.heap.size #[.slice a L.length c] 41 := heap_alloc_new w _
  have hC2 : Cel ((w.alloc (.cells #[.slice a L.length c] 41)).alloc (.cells #[.string ⟨s.toArray⟩] 9)) (w.heap.size + 1) #[.string ⟨s.toArray⟩] 9 := by
    have h := heap_alloc_new (w.alloc (.cells #[.slice a L.length c] 41)) (.cells #[.string ⟨s.toArray⟩] 9)
    rw [World.size_alloc] at h
    exact h
  have hC3 : Cel (((w.alloc (.cells #[.slice a L.length c] 41)).alloc (.cells #[.string ⟨s.toArray⟩] 9)).alloc (.cells #[.bool false, .string ⟨#[]⟩] 23)) (w.heap.size + 2) #[.bool false, .string ⟨#[]⟩] 23 := by
    have h := heap_alloc_new ((w.alloc (.cells #[.slice a L.length c] 41)).alloc (.cells #[.string ⟨s.toArray⟩] 9)) (.cells #[.bool false, .string ⟨#[]⟩] 23)
    rw [World.size_alloc, World.size_alloc] at h
    exact h
  have hC1' := hC1.next (((Since.refl _).alloc (.cells #[.string ⟨s.toArray⟩] 9)).alloc (.cells #[.bool false, .string ⟨#[]⟩] 23))
  have hC2' := hC2.next ((Since.refl _).alloc (.cells #[.bool false, .string ⟨#[]⟩] 23))
  clear hC1 hC2
  have HRI := Lib.hid (fun W (h : RowOf 3 bndC W (.slice a L.length c) L) => rises_any (.slice a L.length c) L W h hr hm)
  have HFB := Lib.hid (fun k (hk : k < L.length) => fstB_at (geB_mono hr s) hk)
  rw [← hr0.out] at HFB
  rw [← hR.out]
  clear hv hR hr hr0
  go_enter Tryd.func44, Tryd.ntmps44
  go_wp2_with fail
  generalize ((w.alloc (.cells #[.slice a L.length c] 41)).alloc (.cells #[.string ⟨s.toArray⟩] 9)).alloc (.cells #[.bool false, .string ⟨#[]⟩] 23) = w1 at *
  have K1 := Lib.hid hC1'
  have K2 := Lib.hid hC2'
  have K3 := Lib.hid hC3
  clear hC1' hC2' hC3
  refine (HRI.out _ (HV.out.next hS1)).mono ?_
  rintro e w2 ⟨rfl, hb⟩
  replace K1 := Lib.hid (K1.out.next hb)
  replace K2 := Lib.hid (K2.out.next hb)
  replace K3 := Lib.hid (K3.out.next hb)
  have hS := hS1.trans hb
  have c1 := K1.out.one
  have c2 := K2.out.one
  clear HRI hS1 hb
  go_wp2_with fail
  refine (search_get w.heap.size (w.heap.size + 1) L.length r _ hrl hm ?_).mono ?_
  · intro W k hW hk
    have h := get1_any a c w.heap.size (w.heap.size + 1) L s k W (K1.out.next hW).one (K2.out.next hW).one (HV.out.next (hS.trans hW)) hk
    rw [HFB.out k hk] at h
    exact h
  rintro e w3 ⟨rfl, hb⟩
  replace K1 := Lib.hid (K1.out.next hb)
  replace K2 := Lib.hid (K2.out.next hb)
  replace K3 := Lib.hid (K3.out.next hb)
  replace hS := hS.trans hb
  clear c1 c2 hb HFB
  go_wp2_with fail
  go_loopw [6] (fun i wr => ∃ k : Nat, k ≤ L.length ∧ i = .int .i64 (k : Int) ∧ Since w wr ∧ Hid (Cel wr w.heap.size #[.slice a L.length c] 41) ∧ Hid (Cel wr (w.heap.size + 1) #[.string ⟨s.toArray⟩] 9) ∧ Hid (Cel wr (w.heap.size + 2) #[.bool false, .string ⟨#[]⟩] 23) ∧ Hid (R = gtV (getB (L.drop k) s))) (fun i _ => L.length - (intOf i).toNat)
  case atStart => exact ⟨r, by omega, rfl, hS, K1.out, K2.out, K3.out, hR0.out⟩
  case round =>
    clear hR0 K1 K2 K3 hS
    obtain ⟨k, hk, rfl, hS, K1, K2, K3, hres⟩ := hrel
    have c1 := K1.out.one
    have c2 := K2.out.one
    have hw0 : w.heap.size + 2 < wr.heap.size := K3.out.lt
    by_cases hlt : k < L.length
    · obtain ⟨b, o, he, _, hc, hat⟩ := bnd_get (HV.out.next hS) (by omega)
      cases he
      obtain ⟨d0, d1, d2⟩ := hat k hlt
      have hst := getB_step hlt s
      have hg2 : (k : Int) < (L.length : Int) := by omega
      have HST := Lib.hid hst
      clear hat hst
      generalize L[k] = x at *
      obtain ⟨xs, xv, xt⟩ := x
      simp only at d0 d1 d2 HST
      cases he : (xs == s)
      · have hnx : Hid (R = gtV (getB (L.drop (k + 1)) s)) := by
          show _ = _
          rw [hres.out, HST.out, he]; rfl
        clear HST hres
        go_wp2_with fail
        go_quiet (fail)
        go_wp2_with fail
        go_roundw
        case rel => exact ⟨k + 1, by omega, by go_num, hS.drewN _, K1.out, K2.out, K3.out, hnx.out⟩
        case measure => simp [intOf]; omega
      · have hnx : Hid (R = gtV (some (xv, xt))) := by
          show _ = _
          rw [hres.out, HST.out, he]; rfl
        clear HST hres
        go_wp2_with fail
        go_quiet (fail)
        have K3d : Cel (wr.drewN nq) (w.heap.size + 2) #[.bool false, .string ⟨#[]⟩] 23 := K3.out
        obtain ⟨z0, z1⟩ := K3d.two
        have hfr := K3d.free
        have hC2 : Cel (((wr.drewN nq).setCell ⟨w.heap.size + 2, 0, none⟩ (.bool xv)).setCell ⟨w.heap.size + 2, 1, none⟩ (.string ⟨xt.toArray⟩)) (w.heap.size + 2) #[.bool xv, .string ⟨xt.toArray⟩] 23 := (K3d.set (ds := #[.bool xv, .string ⟨#[]⟩]) rfl).set rfl
        obtain ⟨e0, e1⟩ := hC2.two
        have hSd := hS.drewN nq
        go_wp2_with fail
        refine bodyPost_ret (v := .tuple #[.agg #[.bool xv, .string ⟨xt.toArray⟩], .bool true]) (by simp [results, Tryd.results44, go_sem, e0, e1]) rfl ?_
        exact ⟨by rw [hnx.out]; rfl, (hSd.setCell (show w.heap.size ≤ w.heap.size + 1 + 1 by omega) _).setCell (show w.heap.size ≤ w.heap.size + 1 + 1 by omega) _⟩
    · have hnx : Hid (R = gtV none) := by
        show _ = _
        rw [hres.out, getB_end hlt]
      clear hres
      have hlt2 : ¬ (k : Int) < (L.length : Int) := by omega
      obtain ⟨z0, z1⟩ := K3.out.two
      have hfr := K3.out.free
      have hC2 : Cel ((wr.setCell ⟨w.heap.size + 2, 0, none⟩ (.bool false)).setCell ⟨w.heap.size + 2, 1, none⟩ (.string ⟨#[]⟩)) (w.heap.size + 2) #[.bool false, .string ⟨#[]⟩] 23 := (K3.out.set (ds := #[.bool false, .string ⟨#[]⟩]) rfl).set rfl
      obtain ⟨e0, e1⟩ := hC2.two
      go_wp2_with fail
      refine bodyPost_ret (v := .tuple #[.agg #[.bool false, .string ⟨#[]⟩], .bool false]) (by simp [results, Tryd.results44, go_sem, e0, e1]) rfl ?_
      exact ⟨by rw [hnx.out]; rfl, (hS.setCell (show w.heap.size ≤ w.heap.size + 1 + 1 by omega) _).setCell (show w.heap.size ≤ w.heap.size + 1 + 1 by omega) _⟩
end Go.Proofs.YtohcehjpdmhjlaaDoor

namespace Go.Proofs.YtohcehjpdmhjlaaDoor
open Go.RowKit

set_option maxHeartbeats 2000000 in
set_option maxRecDepth 100000 in
theorem sterm_any (v : Value) (L : List Bnd) (tv : Bool) (tl : List UInt8) (w : World) (hv : RowOf 3 bndC w v L) (hr : Rises L) (hm : L.length ≤ 1000000) :
    Calls Tryd.prog 34 #[v, .agg #[.bool tv, .string ⟨tl.toArray⟩]] w fun e w' => e = .returned (tmV (termS L (tv, tl))) ∧ Since w w' := by
  have HV := Lib.hid hv
  have HG := Lib.hid (fun W (h : RowOf 3 bndC W v L) => get_any v L tl W h hr hm)
  have hS1 : Since w ((w.alloc (.cells #[.bool tv, .string ⟨tl.toArray⟩] 23)).alloc (.cells #[.bool false, .string ⟨#[]⟩] 23)) := ((Since.refl _).alloc _).alloc _
  have K1 : Hid (Cel ((w.alloc (.cells #[.bool tv, .string ⟨tl.toArray⟩] 23)).alloc (.cells #[.bool false, .string ⟨#[]⟩] 23)) w.heap.size #[.bool tv, .string ⟨tl.toArray⟩] 23) := Lib.hid ((show Cel (w.alloc (.cells #[.bool tv, .string ⟨tl.toArray⟩] 23)) w.heap.size #[.bool tv, .string ⟨tl.toArray⟩] 23 from heap_alloc_new w _).next ((Since.refl _).alloc _))
  have K2 : Hid (Cel ((w.alloc (.cells #[.bool tv, .string ⟨tl.toArray⟩] 23)).alloc (.cells #[.bool false, .string ⟨#[]⟩] 23)) (w.heap.size + 1) #[.bool false, .string ⟨#[]⟩] 23) := by
    have h := heap_alloc_new (w.alloc (.cells #[.bool tv, .string ⟨tl.toArray⟩] 23)) (.cells #[.bool false, .string ⟨#[]⟩] 23)
    rw [World.size_alloc] at h
    exact h
  clear hv hr
  cases hg : getB L tl with
  | none =>
    rw [hg] at HG
    simp only [gtV] at HG
    cases htv : tv
    · subst htv
      have hT : termS L (false, tl) = (false, tl) := by unfold termS; rfl
      go_enter Tryd.func34, Tryd.ntmps34
      obtain ⟨k0, k1⟩ := K1.out.two
      go_wp2_with fail
      refine (HG.out _ (HV.out.next hS1)).mono ?_
      rintro e w2 ⟨rfl, hb⟩
      have hS := hS1.trans hb
      have h2 : Since w2 (w2.alloc (.cells #[.bool false, .string ⟨#[]⟩] 23)) := (Since.refl _).alloc _
      replace K1 := Lib.hid ((K1.out.next hb).next h2)
      replace K2 := Lib.hid ((K2.out.next hb).next h2)
      have K3 : Cel (w2.alloc (.cells #[.bool false, .string ⟨#[]⟩] 23)) w2.heap.size #[.bool false, .string ⟨#[]⟩] 23 := heap_alloc_new w2 _
      replace hS := hS.trans h2
      clear k0 k1 hb h2
      obtain ⟨k0, k1⟩ := K1.out.two
      obtain ⟨z0, z1⟩ := K2.out.two
      obtain ⟨q0, q1⟩ := K3.two
      have hfr := K2.out.free
      have hlt := K2.out.lt
      have K2x : Cel (((w2.alloc (.cells #[.bool false, .string ⟨#[]⟩] 23)).setCell ⟨w.heap.size + 1, 0, none⟩ (.bool false)).setCell ⟨w.heap.size + 1, 1, none⟩ (.string ⟨tl.toArray⟩)) (w.heap.size + 1) #[.bool false, .string ⟨tl.toArray⟩] 23 := (K2.out.set (ds := #[.bool false, .string ⟨#[]⟩]) rfl).set rfl
      obtain ⟨y0, y1⟩ := K2x.two
      go_wp2_with fail
      refine bodyPost_ret (v := .agg #[.bool false, .string ⟨tl.toArray⟩]) (by simp [results, Tryd.results34, go_sem, y0, y1]) rfl ?_
      exact ⟨by rw [hT]; rfl, (hS.setCell (Nat.le_add_right _ _) _).setCell (Nat.le_add_right _ _) _⟩
    · subst htv
      have hT : termS L (true, tl) = (true, tl) := by unfold termS; rw [hg]; rfl
      go_enter Tryd.func34, Tryd.ntmps34
      obtain ⟨k0, k1⟩ := K1.out.two
      go_wp2_with fail
      refine (HG.out _ (HV.out.next hS1)).mono ?_
      rintro e w2 ⟨rfl, hb⟩
      have hS := hS1.trans hb
      have h2 : Since w2 (w2.alloc (.cells #[.bool false, .string ⟨#[]⟩] 23)) := (Since.refl _).alloc _
      replace K1 := Lib.hid ((K1.out.next hb).next h2)
      replace K2 := Lib.hid ((K2.out.next hb).next h2)
      have K3 : Cel (w2.alloc (.cells #[.bool false, .string ⟨#[]⟩] 23)) w2.heap.size #[.bool false, .string ⟨#[]⟩] 23 := heap_alloc_new w2 _
      replace hS := hS.trans h2
      clear k0 k1 hb h2
      obtain ⟨k0, k1⟩ := K1.out.two
      obtain ⟨z0, z1⟩ := K2.out.two
      obtain ⟨q0, q1⟩ := K3.two
      have hfr := K2.out.free
      have hlt := K2.out.lt
      have K2x : Cel (((w2.alloc (.cells #[.bool false, .string ⟨#[]⟩] 23)).setCell ⟨w.heap.size + 1, 0, none⟩ (.bool true)).setCell ⟨w.heap.size + 1, 1, none⟩ (.string ⟨tl.toArray⟩)) (w.heap.size + 1) #[.bool true, .string ⟨tl.toArray⟩] 23 := (K2.out.set (ds := #[.bool true, .string ⟨#[]⟩]) rfl).set rfl
      obtain ⟨y0, y1⟩ := K2x.two
      go_wp2_with fail
      refine bodyPost_ret (v := .agg #[.bool true, .string ⟨tl.toArray⟩]) (by simp [results, Tryd.results34, go_sem, y0, y1]) rfl ?_
      exact ⟨by rw [hT]; rfl, (hS.setCell (Nat.le_add_right _ _) _).setCell (Nat.le_add_right _ _) _⟩
  | some x =>
    rw [hg] at HG
    simp only [gtV] at HG
    obtain ⟨xv, xl⟩ := x
    simp only at HG
    cases htv : tv
    · subst htv
      have hT : termS L (false, tl) = (false, tl) := by unfold termS; rfl
      go_enter Tryd.func34, Tryd.ntmps34
      obtain ⟨k0, k1⟩ := K1.out.two
      go_wp2_with fail
      refine (HG.out _ (HV.out.next hS1)).mono ?_
      rintro e w2 ⟨rfl, hb⟩
      have hS := hS1.trans hb
      have h2 : Since w2 (w2.alloc (.cells #[.bool xv, .string ⟨xl.toArray⟩] 23)) := (Since.refl _).alloc _
      replace K1 := Lib.hid ((K1.out.next hb).next h2)
      replace K2 := Lib.hid ((K2.out.next hb).next h2)
      have K3 : Cel (w2.alloc (.cells #[.bool xv, .string ⟨xl.toArray⟩] 23)) w2.heap.size #[.bool xv, .string ⟨xl.toArray⟩] 23 := heap_alloc_new w2 _
      replace hS := hS.trans h2
      clear k0 k1 hb h2
      obtain ⟨k0, k1⟩ := K1.out.two
      obtain ⟨z0, z1⟩ := K2.out.two
      obtain ⟨q0, q1⟩ := K3.two
      have hfr := K2.out.free
      have hlt := K2.out.lt
      have K2x : Cel (((w2.alloc (.cells #[.bool xv, .string ⟨xl.toArray⟩] 23)).setCell ⟨w.heap.size + 1, 0, none⟩ (.bool false)).setCell ⟨w.heap.size + 1, 1, none⟩ (.string ⟨tl.toArray⟩)) (w.heap.size + 1) #[.bool false, .string ⟨tl.toArray⟩] 23 := (K2.out.set (ds := #[.bool false, .string ⟨#[]⟩]) rfl).set rfl
      obtain ⟨y0, y1⟩ := K2x.two
      go_wp2_with fail
      refine bodyPost_ret (v := .agg #[.bool false, .string ⟨tl.toArray⟩]) (by simp [results, Tryd.results34, go_sem, y0, y1]) rfl ?_
      exact ⟨by rw [hT]; rfl, (hS.setCell (Nat.le_add_right _ _) _).setCell (Nat.le_add_right _ _) _⟩
    · subst htv
      have hT : termS L (true, tl) = (xv, xl) := by unfold termS; rw [hg]; rfl
      go_enter Tryd.func34, Tryd.ntmps34
      obtain ⟨k0, k1⟩ := K1.out.two
      go_wp2_with fail
      refine (HG.out _ (HV.out.next hS1)).mono ?_
      rintro e w2 ⟨rfl, hb⟩
      have hS := hS1.trans hb
      have h2 : Since w2 (w2.alloc (.cells #[.bool xv, .string ⟨xl.toArray⟩] 23)) := (Since.refl _).alloc _
      replace K1 := Lib.hid ((K1.out.next hb).next h2)
      replace K2 := Lib.hid ((K2.out.next hb).next h2)
      have K3 : Cel (w2.alloc (.cells #[.bool xv, .string ⟨xl.toArray⟩] 23)) w2.heap.size #[.bool xv, .string ⟨xl.toArray⟩] 23 := heap_alloc_new w2 _
      replace hS := hS.trans h2
      clear k0 k1 hb h2
      obtain ⟨k0, k1⟩ := K1.out.two
      obtain ⟨z0, z1⟩ := K2.out.two
      obtain ⟨q0, q1⟩ := K3.two
      have hfr := K2.out.free
      have hlt := K2.out.lt
      have K2x : Cel (((w2.alloc (.cells #[.bool xv, .string ⟨xl.toArray⟩] 23)).setCell ⟨w.heap.size + 1, 0, none⟩ (.bool xv)).setCell ⟨w.heap.size + 1, 1, none⟩ (.string ⟨xl.toArray⟩)) (w.heap.size + 1) #[.bool xv, .string ⟨xl.toArray⟩] 23 := (K2.out.set (ds := #[.bool xv, .string ⟨#[]⟩]) rfl).set rfl
      obtain ⟨y0, y1⟩ := K2x.two
      go_wp2_with fail
      refine bodyPost_ret (v := .agg #[.bool xv, .string ⟨xl.toArray⟩]) (by simp [results, Tryd.results34, go_sem, y0, y1]) rfl ?_
      exact ⟨by rw [hT]; rfl, (hS.setCell (Nat.le_add_right _ _) _).setCell (Nat.le_add_right _ _) _⟩
theorem own_any (v : List UInt8) (tv : Bool) (tl : List UInt8) (R : Bool) (hR : (tv && (tl == v)) = R) (w : World) :
    Calls Tryd.prog 45 #[.agg #[.string ⟨v.toArray⟩, .bool tv, .string ⟨tl.toArray⟩]] w fun e w' => e = .returned (.bool R) ∧ Since w w' := by
  have K : Cel (w.alloc (.cells #[.string ⟨v.toArray⟩, .bool tv, .string ⟨tl.toArray⟩] 49)) w.heap.size #[.string ⟨v.toArray⟩, .bool tv, .string ⟨tl.toArray⟩] 49 := heap_alloc_new w _
  obtain ⟨k0, k1, k2⟩ := K.three
  have hS : Since w (w.alloc (.cells #[.string ⟨v.toArray⟩, .bool tv, .string ⟨tl.toArray⟩] 49)) := (Since.refl _).alloc _
  cases htv : tv
  · subst htv
    go_enter Tryd.func45, Tryd.ntmps45
    go_wp2_with fail
    go_ret
    exact ⟨by rw [← hR]; rfl, hS⟩
  · subst htv
    go_enter Tryd.func45, Tryd.ntmps45
    go_wp2_with fail
    go_ret
    exact ⟨by rw [← hR]; rfl, hS⟩
end Go.Proofs.YtohcehjpdmhjlaaDoor

namespace Go.Proofs.YtohcehjpdmhjlaaDoor
open Go.RowKit

theorem inv_at {L : List Bnd} (h : InvB L) {k : Nat} (hk : k < L.length) : L[k].2.2.isEmpty = false ∧ (L[k].2.1 = true → getB L L[k].2.2 = none) := by
  obtain ⟨_, h2, h3⟩ := h.2 _ (List.getElem_mem hk)
  exact ⟨by rw [List.isEmpty_eq_false_iff]; exact h2, h3⟩
set_option maxHeartbeats 2000000 in
set_option maxRecDepth 100000 in
theorem ucheck_any (v : Value) (L : List Bnd) (w : World) (hv : RowOf 3 bndC w v L) (hi : InvB L) (hm : L.length ≤ 1000000) :
    Calls Tryd.prog 43 #[v] w fun e w' => e = .returned (.int .i64 0) ∧ Since w w' := by
  obtain ⟨a, c, rfl⟩ := hv.form
  have HV := Lib.hid hv
  have HI := Lib.hid hi
  have HRI := Lib.hid (rises_any (.slice a L.length c) L w hv hi.1 hm)
  have HG := Lib.hid (fun s W (h : RowOf 3 bndC W (.slice a L.length c) L) => get_any (.slice a L.length c) L s W h hi.1 hm)
  clear hv hi
  go_enter Tryd.func43, Tryd.ntmps43
  go_wp2_with fail
  refine HRI.out.mono ?_
  rintro e w1 ⟨rfl, hS0⟩
  go_wp2_with fail
  go_loopw [12] (fun i wr => ∃ k : Nat, k ≤ L.length ∧ i = .int .i64 (k : Int) ∧ Since w wr) (fun i _ => L.length - (intOf i).toNat)
  case atStart => exact ⟨0, by omega, rfl, hS0⟩
  case round =>
    clear hS0
    obtain ⟨k, hk, rfl, hS⟩ := hrel
    by_cases hlt : k < L.length
    · obtain ⟨b, o, he, _, hc, hat⟩ := bnd_get (HV.out.next hS) (by omega)
      cases he
      obtain ⟨d0, d1, d2⟩ := hat k hlt
      obtain ⟨hx1, hx2⟩ := inv_at HI.out hlt
      have hg2 : (k : Int) < (L.length : Int) := by omega
      clear hat
      generalize L[k] = x at *
      obtain ⟨xs, xv, xt⟩ := x
      simp only at d0 d1 d2 hx1 hx2
      have hS2 : Since w (wr.alloc (.cells #[.string ⟨xs.toArray⟩, .bool xv, .string ⟨xt.toArray⟩] 49)) := hS.alloc _
      have K : Hid (Cel (wr.alloc (.cells #[.string ⟨xs.toArray⟩, .bool xv, .string ⟨xt.toArray⟩] 49)) wr.heap.size #[.string ⟨xs.toArray⟩, .bool xv, .string ⟨xt.toArray⟩] 49) := heap_alloc_new wr _
      obtain ⟨k0, k1, k2⟩ := K.out.three
      have HC := Lib.hid (HG.out xt _ (HV.out.next hS2))
      cases hg : getB L xt with
      | none =>
        rw [hg] at HC
        simp only [gtV] at HC
        clear hx2
        go_wp2_with fail
        refine HC.out.mono ?_
        rintro e w2 ⟨rfl, hb⟩
        have hb2 := hb.alloc (.cells #[.bool false, .string ⟨#[]⟩] 23)
        replace K := Lib.hid (K.out.next hb2)
        replace hS2 := hS2.trans hb2
        clear k0 k1 k2 hb hb2
        obtain ⟨k0, k1, k2⟩ := K.out.three
        cases xv
        · go_wp2_with fail
          go_roundw
          case rel => exact ⟨k + 1, by omega, by go_num, hS2⟩
          case measure => simp [intOf]; omega
        · go_wp2_with fail
          go_roundw
          case rel => exact ⟨k + 1, by omega, by go_num, hS2⟩
          case measure => simp [intOf]; omega
      | some y =>
        have hxv : xv = false := by
          cases xv
          · rfl
          · rw [hx2 rfl] at hg; cases hg
        subst hxv
        rw [hg] at HC
        obtain ⟨yv, yt⟩ := y
        simp only [gtV] at HC
        clear hx2
        go_wp2_with fail
        refine HC.out.mono ?_
        rintro e w2 ⟨rfl, hb⟩
        have hb2 := hb.alloc (.cells #[.bool yv, .string ⟨yt.toArray⟩] 23)
        replace K := Lib.hid (K.out.next hb2)
        replace hS2 := hS2.trans hb2
        clear k0 k1 k2 hb hb2
        obtain ⟨k0, k1, k2⟩ := K.out.three
        go_wp2_with fail
        go_roundw
        case rel => exact ⟨k + 1, by omega, by go_num, hS2⟩
        case measure => simp [intOf]; omega
    · have hlt2 : ¬ (k : Int) < (L.length : Int) := by omega
      go_wp2_with fail
      go_ret
      exact ⟨rfl, hS⟩
end Go.Proofs.YtohcehjpdmhjlaaDoor

namespace Go.Proofs.YtohcehjpdmhjlaaDoor
open Go.RowKit

theorem bndInfo : (Tryd.prog.info? 49).map (fun i => (i.zero, i.size, i.bytes)) = some (some (.agg #[.string ⟨#[]⟩, .bool false, .string ⟨#[]⟩]), 3, 40) := by kernel_rfl
theorem cells_lit (W : World) (cs : Array Value) (t : TypeId) (g : Nat) (hg : W.heap.size = g) : ∀ j u, cs.toList[j]? = some u → (W.alloc (.cells cs t)).cell? ((⟨g, 0, none⟩ : Addr).add j) = some u := by
  intro j u hj
  subst hg
  rw [add_form, Nat.zero_add, World.cell?_alloc_new]
  simpa using hj
theorem bnd_one (b : Bnd) : ∀ u ∈ bndC b, u.oneCell' = true := by
  intro u hu
  simp only [bndC, List.mem_cons, List.not_mem_nil, or_false] at hu
  rcases hu with rfl | rfl | rfl <;> rfl
theorem under_step {L M : List Bnd} {k : Nat} (hk : k < L.length) : underB (L.take (k + 1)) M = underB (L.take k) M ++ [(L[k].1, termS M L[k].2)] := by
  unfold underB
  rw [List.take_succ_eq_append_getElem hk, List.map_append]; rfl
theorem under_len (L M : List Bnd) : (underB L M).length = L.length := List.length_map _
theorem ownB_since {W W' : World} {base : Nat} {e : TypeId} {size : Nat} {v : Value} {n : Nat} {xs : List Value} (h : W.ownsRow base e size v n xs) (hs : Since W W') : W'.ownsRow base e size v n xs := by
  obtain ⟨hl, h | ⟨g, cap, cur, hv, hb, hg, r⟩⟩ := h
  · exact ⟨hl, .inl h⟩
  · exact ⟨hl, .inr ⟨g, cap, cur, hv, hb, (Below.block hs g (Array.getElem?_eq_some_iff.1 hg).1).trans hg, r⟩⟩
theorem flat_push {P : List Bnd} {b : Bnd} : (P ++ [b]).flatMap bndC = P.flatMap bndC ++ bndC b := by simp
/-- A row of bindings whose address is known, or the nil slice. -/
def RowS (W : World) (v : Value) (L : List Bnd) : Prop := RowOf 3 bndC W v L ∧ ((v = .slice none 0 0 ∧ L = []) ∨ ∃ b o c, v = .slice (some ⟨b, o, none⟩) L.length c)
theorem RowS.next {W W' : World} {v : Value} {L : List Bnd} (h : RowS W v L) (hs : Since W W') : RowS W' v L := ⟨h.1.next hs, h.2⟩
theorem rowS_of_own {W : World} {base : Nat} {e : TypeId} {v : Value} {n : Nat} {L : List Bnd} (h : W.ownsRow base e 3 v n (L.flatMap bndC)) (hL : L.length = n) : RowS W v L := by
  refine ⟨rowOf_of_own bndC_len h hL, ?_⟩
  subst hL
  rcases h.2 with ⟨h1, h2⟩ | ⟨g, cap, cur, hv, _⟩
  · exact .inl ⟨h1, List.eq_nil_of_length_eq_zero h2⟩
  · exact .inr ⟨_, _, _, hv⟩
set_option maxHeartbeats 4000000 in
set_option maxRecDepth 100000 in
theorem under_any (v1 v2 : Value) (L M : List Bnd) (w : World) (h1 : RowOf 3 bndC w v1 L) (h2 : RowOf 3 bndC w v2 M) (hr : Rises M) (hm1 : L.length ≤ 1000000) (hm2 : M.length ≤ 1000000) :
    Calls Tryd.prog 47 #[v1, v2] w fun e w' => ∃ v, e = .returned v ∧ RowS w' v (underB L M) ∧ Since w w' := by
  obtain ⟨a, c, rfl⟩ := h1.form
  have HV := Lib.hid h1
  have HT := Lib.hid (fun tv tl W (h : Since w W) => sterm_any v2 M tv tl W (h2.next h) hr hm2)
  obtain ⟨i0, hi0, hz0, hz1, hz2⟩ := info_parts bndInfo
  have HI := Lib.hid (And.intro hi0 (And.intro hz0 (And.intro hz1 hz2)))
  clear h1 hi0 hz0 hz1 hz2
  go_enter Tryd.func47, Tryd.ntmps47
  go_wp2_with fail
  go_loopw [5, 10] (fun s i wr => ∃ k : Nat, k ≤ L.length ∧ i = .int .i64 (k : Int) ∧ Since w wr ∧ wr.ownsRow w.heap.size 49 3 s k ((underB (L.take k) M).flatMap bndC)) (fun _ i _ => L.length - (intOf i).toNat)
  case atStart => exact ⟨0, by omega, rfl, Since.refl _, World.ownsRow_nil _ _ _ _⟩
  case round =>
    obtain ⟨k, hk, rfl, hS, how⟩ := hrel
    by_cases hlt : k < L.length
    · obtain ⟨b, o, he, _, hc, hat⟩ := bnd_get (HV.out.next hS) (by omega)
      cases he
      obtain ⟨d0, d1, d2⟩ := hat k hlt
      have hg2 : (k : Int) < (L.length : Int) := by omega
      have hst := under_step (M := M) hlt
      have HST := Lib.hid hst
      clear hat hst
      generalize L[k] = x at *
      obtain ⟨xs, xv, xt⟩ := x
      simp only at d0 d1 d2 HST
      have hS2 : Since w (wr.alloc (.cells #[.string ⟨xs.toArray⟩, .bool xv, .string ⟨xt.toArray⟩] 49)) := hS.alloc _
      have K : Hid (Cel (wr.alloc (.cells #[.string ⟨xs.toArray⟩, .bool xv, .string ⟨xt.toArray⟩] 49)) wr.heap.size #[.string ⟨xs.toArray⟩, .bool xv, .string ⟨xt.toArray⟩] 49) := heap_alloc_new wr _
      obtain ⟨k0, k1, k2⟩ := K.out.three
      have how2 := how.alloc (.cells #[.string ⟨xs.toArray⟩, .bool xv, .string ⟨xt.toArray⟩] 49)
      obtain ⟨y, hy⟩ : ∃ y, Hid (y = termS M (xv, xt)) := ⟨_, rfl⟩
      have HC := Lib.hid (HT.out xv xt)
      rw [← hy.out] at HC HST
      obtain ⟨yv, yt⟩ := y
      simp only [tmV] at HC
      clear HT hy
      go_wp2_with fail
      have hS2d : Since w (wr.alloc (.cells #[.string ⟨xs.toArray⟩, .bool xv, .string ⟨xt.toArray⟩] 49)).drew := hS2.drew
      have how2d : (wr.alloc (.cells #[.string ⟨xs.toArray⟩, .bool xv, .string ⟨xt.toArray⟩] 49)).drew.ownsRow w.heap.size 49 3 u5 k ((underB (L.take k) M).flatMap bndC) := how2
      have Kd : Cel (wr.alloc (.cells #[.string ⟨xs.toArray⟩, .bool xv, .string ⟨xt.toArray⟩] 49)).drew wr.heap.size #[.string ⟨xs.toArray⟩, .bool xv, .string ⟨xt.toArray⟩] 49 := K.out
      go_region_law (first
        | (go_simp; go_at_call 34; (with_reducible refine Calls.mono (HC.out _ ?_) ?_); (first | exact hS2d | exact hS2); rintro e w8 ⟨rfl, hb8⟩; have hK8 := Kd.next hb8; obtain ⟨m0, m1, m2⟩ := hK8.three; have how8 := ownB_since how2d hb8; have hS8 := hS2d.trans hb8; have hz8 : w.heap.size ≤ w8.heap.size := hS8.size)
        | ((refine step_append_own rfl (.tmp 14) (.tmp 22) 41 rfl w.heap.size 49 i0 (.agg #[.string ⟨#[]⟩, .bool false, .string ⟨#[]⟩]) 3 40 Tryd.underlying41 HI.out.1 HI.out.2.1 HI.out.2.2.1 HI.out.2.2.2 rfl (by decide) u5 k ((underB (L.take k) M).flatMap bndC) rfl (how8.alloc _) ⟨w8.heap.size, 0, none⟩ 1 1 (bndC (xs, (yv, yt))) rfl rfl (cells_lit _ _ _ _ rfl) (bnd_one _) (by unfold maxLen; omega) (by omega) (by simp; omega) ?_); intro v9 w9 hown9 hg9 _; have hB9 := below_append hS8 hz8 how8 hg9))
      all_goals
        rw [← flat_push, ← HST.out] at hown9
        go_wp2_with fail
        go_roundw
        case rel => exact ⟨k + 1, by omega, by go_num, hB9, hown9⟩
        case measure => simp [intOf]; omega
    · have hlt2 : ¬ (k : Int) < (L.length : Int) := by omega
      have hkl : k = L.length := by omega
      subst hkl
      rw [List.take_length] at how
      go_wp2_with fail
      go_ret
      exact ⟨_, rfl, rowS_of_own how (under_len _ _), hS⟩
end Go.Proofs.YtohcehjpdmhjlaaDoor

namespace Go.Proofs.YtohcehjpdmhjlaaDoor
open Go.RowKit

theorem step_append_any {P : Program} {w : World} {ops : Array Oper} {o : Oper} {a : Act} {K : Act → World → Prop} {Q : Exit → Act → World → Prop} {E : Prop} (hgd : o.guard = none) (s x : Operand) (t : TypeId)
    (ho : o.op = .call { callee := .builtin .append, args := #[s, x], argTypes := #[t, t] })
    (base : Nat) (e : TypeId) (i : TypeInfo) (z : Value) (size bytes : Nat) (ht : P.underlying t = some (.slice e)) (hi : P.info? e = some i) (hz : i.zero = some z)
    (hsize : i.size = size) (hby : i.bytes = bytes) (hzs : z.cells.size = size) (hsz : 0 < size)
    (v : Value) (n : Nat) (xs : List Value) (hs : a.eval s = v) (hown : w.ownsRow base e size v n xs)
    (B : Nat) (A : Option Addr) (m c : Nat) (news : List Value) (hx : a.eval x = .slice A m c) (hr : Reads w B size A m news) (h1 : ∀ u ∈ news, u.oneCell' = true)
    (h63 : n + m ≤ maxLen) (hbytes : (n + m) * bytes ≤ 140737488355328) (hbase : base ≤ w.heap.size)
    (h : ∀ v' w', w'.ownsRow base e size v' (n + m) (xs ++ news) → w.grownBy w' v.ownBlock → (v'.ownBlock = v.ownBlock ∨ v'.ownBlock = some w.heap.size) → K (a.put o.dst v') w') : if Region.wanted o (yielded ops a.tmps) = true then Oper.wp P o a w K Q else E := by
  have hw : Region.wanted o (yielded ops a.tmps) = true := by simp [Region.wanted, hgd]
  rw [if_pos hw]
  exact wp_append_any w s x t ho base e i z size bytes ht hi hz hsize hby hzs hsz v n xs hs hown B A m c news hx hr h1 h63 hbytes hbase h
def gtB (v : List UInt8) (b : Bnd) : Bool := !Op.bytesLess b.1 v && !(b.1 == v)
theorem gtB_lt (v : List UInt8) (b : Bnd) : gtB v b = decide (v < b.1) := by
  unfold gtB
  rw [less_lt, Bool.eq_iff_iff]
  simp only [Bool.and_eq_true, Bool.not_eq_true', decide_eq_false_iff_not, beq_eq_false_iff_ne, decide_eq_true_eq]
  constructor
  · intro h; exact lt_tri h.1 h.2
  · intro h; exact ⟨fun h2 => List.lt_asymm h h2, fun e => by rw [e] at h; exact List.lt_irrefl _ h⟩
theorem gtB_mono {L : List Bnd} (hr : Rises L) (v : List UInt8) : ∀ i j, (hj : j < L.length) → (h : i < j) → gtB v L[i] = true → gtB v L[j] = true := by
  intro i j hj h hi
  rw [gtB_lt] at hi ⊢
  simp only [decide_eq_true_eq] at hi ⊢
  exact List.lt_trans hi (rises_lt hr hj h)
theorem ins_cut (b : Bnd) : ∀ L : List Bnd, insB b L = L.take (fstB (gtB b.1) L) ++ ([b] ++ L.drop (fstB (gtB b.1) L))
  | [] => rfl
  | c :: l => by
    unfold insB fstB
    rw [gtB_lt]
    by_cases h : b.1 < c.1
    · rw [if_pos h, if_pos (decide_eq_true h)]; rfl
    · rw [if_neg h, if_neg (by simp [h]), ins_cut b l]; rfl
set_option maxHeartbeats 1000000 in
theorem with1_any (a : Option Addr) (c B1 B2 : Nat) (L : List Bnd) (x : Bnd) (k : Nat) (W : World) (h1 : W.cell? ⟨B1, 0, none⟩ = some (.slice a L.length c)) (h2 : W.cell? ⟨B2, 0, none⟩ = some (.string ⟨x.1.toArray⟩)) (hv : RowOf 3 bndC W (.slice a L.length c) L) (hk : k < L.length) :
    Calls Tryd.prog 61 #[.int .i64 (k : Int), .pointer (some ⟨B1, 0, none⟩), .pointer (some ⟨B2, 0, none⟩)] W fun e w' => e = .returned (.bool (gtB x.1 L[k])) ∧ Since W w' := by
  obtain ⟨b, o, he, _, hc, hat⟩ := bnd_get hv (by omega)
  cases he
  obtain ⟨d0, d1, d2⟩ := hat k hk
  have hg2 : (k : Int) < (L.length : Int) := by omega
  unfold gtB
  clear hat hv
  generalize L[k] = y at *
  obtain ⟨ys, yv, yt⟩ := y
  obtain ⟨xs, xt⟩ := x
  simp only at d0 d1 d2 h2
  go_enter Tryd.func61, Tryd.ntmps61
  go_wp2_with fail
  go_quiet (fail)
  go_wp2_with fail
  go_ret
  exact ⟨rfl, (Since.refl _).drewN _⟩
theorem flat_one : ∀ (L : List Bnd), ∀ u ∈ L.flatMap bndC, u.oneCell' = true := by
  intro L u hu
  obtain ⟨b, _, hb⟩ := List.mem_flatMap.1 hu
  exact bnd_one b u hb
set_option maxHeartbeats 4000000 in
set_option maxRecDepth 100000 in
theorem with_any (v : Value) (L : List Bnd) (xs : List UInt8) (xv : Bool) (xt : List UInt8) (w : World) (hv : RowS w v L) (hr : Rises L) (hm : L.length ≤ 1000000) :
    Calls Tryd.prog 46 #[v, .agg #[.string ⟨xs.toArray⟩, .bool xv, .string ⟨xt.toArray⟩]] w fun e w' => ∃ v', e = .returned v' ∧ RowS w' v' (insB (xs, (xv, xt)) L) ∧ Since w w' := by
  obtain ⟨i0, hi0, hz0, hz1, hz2⟩ := info_parts bndInfo
  have HI := Lib.hid (And.intro hi0 (And.intro hz0 (And.intro hz1 hz2)))
  clear hi0 hz0 hz1 hz2
  obtain ⟨r, hr0⟩ : ∃ r, Hid (r = fstB (gtB xs) L) := ⟨_, rfl⟩
  have hrl : r ≤ L.length := by rw [hr0.out]; exact fstB_le _ _
  have hcut : Hid (insB (xs, (xv, xt)) L = L.take r ++ ([(xs, (xv, xt))] ++ L.drop r)) := by
    show _ = _
    rw [ins_cut, ← hr0.out]
  have HFB := Lib.hid (fun k (hk : k < L.length) => fstB_at (L := L) (f := gtB xs) (gtB_mono hr xs) hk)
  rw [← hr0.out] at HFB
  have HV := Lib.hid hv
  rcases hv.2 with ⟨rfl, rfl⟩ | ⟨b, o, c, rfl⟩
  · obtain rfl : r = 0 := by simpa using hrl
    have hS1 : Since w ((w.alloc (.cells #[.slice none 0 0] 41)).alloc (.cells #[.string ⟨xs.toArray⟩, .bool xv, .string ⟨xt.toArray⟩] 49)) := ((Since.refl _).alloc _).alloc _
    have K1 : Hid (Cel ((w.alloc (.cells #[.slice none 0 0] 41)).alloc (.cells #[.string ⟨xs.toArray⟩, .bool xv, .string ⟨xt.toArray⟩] 49)) w.heap.size #[.slice none 0 0] 41) := Lib.hid ((show Cel (w.alloc (.cells #[.slice none 0 0] 41)) w.heap.size _ _ from heap_alloc_new w _).next ((Since.refl _).alloc _))
    have K2 : Hid (Cel ((w.alloc (.cells #[.slice none 0 0] 41)).alloc (.cells #[.string ⟨xs.toArray⟩, .bool xv, .string ⟨xt.toArray⟩] 49)) (w.heap.size + 1) #[.string ⟨xs.toArray⟩, .bool xv, .string ⟨xt.toArray⟩] 49) := by
      have h := heap_alloc_new (w.alloc (.cells #[.slice none 0 0] 41)) (.cells #[.string ⟨xs.toArray⟩, .bool xv, .string ⟨xt.toArray⟩] 49)
      rw [World.size_alloc] at h
      exact h
    have HSE : Hid (∀ W, Calls Tryd.prog 59 #[.int .i64 0, .func (.func 61) #[] #[.pointer (some ⟨w.heap.size, 0, none⟩), .pointer (some ⟨w.heap.size + 1, 0, none⟩)]] W fun e w' => e = .returned (.int .i64 0) ∧ Since W w') := by
      intro W
      exact search_with w.heap.size (w.heap.size + 1) 0 0 W (Nat.le_refl _) (by omega) (fun _ _ _ h => absurd h (Nat.not_lt_zero _))
    clear hv hr hr0
    have c1 := K1.out.one
    go_enter Tryd.func46, Tryd.ntmps46
    go_wp2_with fail
    generalize ((w.alloc (.cells #[.slice none 0 0] 41)).alloc (.cells #[.string ⟨xs.toArray⟩, .bool xv, .string ⟨xt.toArray⟩] 49)) = w1 at *
    refine (HSE.out _).mono ?_
    rintro e w3 ⟨rfl, hb⟩
    replace K1 := Lib.hid (K1.out.next hb)
    replace K2 := Lib.hid (K2.out.next hb)
    have hS := hS1.trans hb
    clear c1 hb HFB hS1 HSE
    have c1 := K1.out.one
    obtain ⟨k0, k1, k2⟩ := K2.out.three
    go_wp2_with fail
    have hS3d : Since w3 (w3.drew.alloc (.cells #[.string ⟨xs.toArray⟩, .bool xv, .string ⟨xt.toArray⟩] 49)) := ((Since.refl w3).drew).alloc _
    have c1a := (K1.out.next ((Since.refl w3).alloc (.cells #[.string ⟨xs.toArray⟩, .bool xv, .string ⟨xt.toArray⟩] 49))).one
    have hz3 : w.heap.size ≤ w3.heap.size := hS.size
    go_region_law (first
      | ((refine step_append_grows rfl (.tmp 13) (.tmp 15) 41 rfl 49 i0 (.agg #[.string ⟨#[]⟩, .bool false, .string ⟨#[]⟩]) 3 40 Tryd.underlying41 HI.out.1 HI.out.2.1 HI.out.2.2.1 HI.out.2.2.2 rfl (by decide) none 0 0 [] rfl (fun _ => ⟨rfl, rfl⟩) rfl (fun _ h => by cases h) ⟨w3.heap.size, 0, none⟩ 1 1 (bndC (xs, (xv, xt))) rfl rfl (cells_lit _ _ _ _ rfl) (bnd_one _) (by omega) (by unfold maxLen; omega) (by omega) ?_); intro v8 w8 hown8 hg8; have hS8 : Since w3 w8 := Since.trans (by first | exact hS3d | exact (Since.refl _).alloc _) (Below.grown (Since.refl _) hg8 (Nat.le_refl _) (fun k hk => by cases hk)); have c8 := (K1.out.next hS8).one; have hown8b := own_down (B' := w.heap.size) hown8 (Nat.le_trans hz3 (by first | exact hS3d.size | exact ((Since.refl w3).alloc _).size)); have hS8b := hS.trans hS8)
      | ((refine step_append_any rfl (.tmp 16) (.tmp 19) 41 rfl w.heap.size 49 i0 (.agg #[.string ⟨#[]⟩, .bool false, .string ⟨#[]⟩]) 3 40 Tryd.underlying41 HI.out.1 HI.out.2.1 HI.out.2.2.1 HI.out.2.2.2 rfl (by decide) v8 (0 + 1) ([] ++ bndC (xs, (xv, xt))) rfl hown8b w8.heap.size none 0 0 [] rfl Reads.none_ (fun _ h => by cases h) (by unfold maxLen; omega) (by omega) hS8b.size ?_); intro v9 w9 hown9 hg9 _; have hB9 : Since w w9 := Below.grown hS8b hg9 hS8b.size (fun k hk => own_ge hown8b k hk)))
    all_goals
      have e9 : ([] ++ bndC (xs, (xv, xt))) ++ [] = (insB (xs, (xv, xt)) []).flatMap bndC := rfl
      rw [e9] at hown9
      clear e9
    all_goals go_wp2_with fail
    all_goals
      go_ret
      exact ⟨_, rfl, rowS_of_own hown9 rfl, hB9⟩
  have hS1 : Since w ((w.alloc (.cells #[.slice (some ⟨b, o, none⟩) L.length c] 41)).alloc (.cells #[.string ⟨xs.toArray⟩, .bool xv, .string ⟨xt.toArray⟩] 49)) := ((Since.refl _).alloc _).alloc _
  have K1 : Hid (Cel ((w.alloc (.cells #[.slice (some ⟨b, o, none⟩) L.length c] 41)).alloc (.cells #[.string ⟨xs.toArray⟩, .bool xv, .string ⟨xt.toArray⟩] 49)) w.heap.size #[.slice (some ⟨b, o, none⟩) L.length c] 41) := Lib.hid ((show Cel (w.alloc (.cells #[.slice (some ⟨b, o, none⟩) L.length c] 41)) w.heap.size _ _ from heap_alloc_new w _).next ((Since.refl _).alloc _))
  have K2 : Hid (Cel ((w.alloc (.cells #[.slice (some ⟨b, o, none⟩) L.length c] 41)).alloc (.cells #[.string ⟨xs.toArray⟩, .bool xv, .string ⟨xt.toArray⟩] 49)) (w.heap.size + 1) #[.string ⟨xs.toArray⟩, .bool xv, .string ⟨xt.toArray⟩] 49) := by
    have h := heap_alloc_new (w.alloc (.cells #[.slice (some ⟨b, o, none⟩) L.length c] 41)) (.cells #[.string ⟨xs.toArray⟩, .bool xv, .string ⟨xt.toArray⟩] 49)
    rw [World.size_alloc] at h
    exact h
  clear hv hr hr0
  have c1 := K1.out.one
  go_enter Tryd.func46, Tryd.ntmps46
  go_wp2_with fail
  generalize (w.alloc (.cells #[.slice (some ⟨b, o, none⟩) L.length c] 41)).alloc (.cells #[.string ⟨xs.toArray⟩, .bool xv, .string ⟨xt.toArray⟩] 49) = w1 at *
  refine (search_with w.heap.size (w.heap.size + 1) L.length r _ hrl hm ?_).mono ?_
  · intro W k hW hk
    have h := with1_any (some ⟨b, o, none⟩) c w.heap.size (w.heap.size + 1) L (xs, (xv, xt)) k W (K1.out.next hW).one (K2.out.next hW).three.1 (HV.out.1.next (hS1.trans hW)) hk
    rw [HFB.out k hk] at h
    exact h
  rintro e w3 ⟨rfl, hb⟩
  replace K1 := Lib.hid (K1.out.next hb)
  replace K2 := Lib.hid (K2.out.next hb)
  have hS := hS1.trans hb
  clear c1 hb HFB hS1
  have c1 := K1.out.one
  obtain ⟨k0, k1, k2⟩ := K2.out.three
  go_wp2_with fail
  have hrow := (HV.out.1.next hS)
  have hnc : L.length ≤ c := by
    obtain ⟨a', c', h1, h2, _⟩ := hrow
    injection h1 with _ _ h3
    omega
  have hcm : c ≤ maxLen := by
    obtain ⟨a', c', h1, _, h2, _⟩ := hrow
    injection h1 with _ _ h3
    omega
  have hreads := reads_of_rowOf bndC_len hrow (by decide)
  have q1 : (r : Int) ≤ (c : Int) := by omega
  have q2 : (r : Int) ≤ (L.length : Int) := by omega
  have q3 : (L.length : Int) ≤ (c : Int) := by omega
  have q4 : (0 : Int) ≤ (r : Int) := by omega
  have HR := Lib.hid hreads
  clear hrow hreads
  have hold : Hid (∀ W, Since w3 W → ∀ j u, ((L.take r).flatMap bndC)[j]? = some u → W.cell? ((⟨b, o, none⟩ : Addr).add j) = some u) := by
    intro W hW j u hu
    obtain ⟨h1, h2⟩ := HR.out
    have hj := (List.getElem?_eq_some_iff.1 hu).1
    have hl0 : 0 < L.length := by
      rcases Nat.eq_zero_or_pos L.length with h | h
      · have : L = [] := List.eq_nil_of_length_eq_zero h
        rw [this] at hu; simp at hu
      · exact h
    obtain ⟨ad, h3, _, h4⟩ := h2 hl0
    cases h3
    refine hW.cell (h4 j u ?_)
    have e : L.flatMap bndC = (L.take r).flatMap bndC ++ (L.drop r).flatMap bndC := by rw [← List.flatMap_append, List.take_append_drop]
    rw [e, List.getElem?_append_left hj]
    exact hu
  have hread : Hid (∀ W, Since w3 W → Reads W W.heap.size 3 (if c = r then some ⟨b, o, none⟩ else some ⟨b, o + r * 3, none⟩) (L.length - r) ((L.drop r).flatMap bndC)) := by
    intro W hW
    have h := (HR.out.cut hrl hnc).below (Below.mono hW (Nat.le_refl _)) |>.more hW.size
    have e : (L.flatMap bndC).drop (r * 3) = (L.drop r).flatMap bndC := by
      have e2 : L.flatMap bndC = (L.take r).flatMap bndC ++ (L.drop r).flatMap bndC := by rw [← List.flatMap_append, List.take_append_drop]
      rw [e2, List.drop_left' (by rw [flat_len bndC_len, List.length_take, Nat.min_eq_left hrl])]
    rw [e] at h
    simpa only [Option.map_some, add_form] using h
  have hlen : Hid (((L.take r).flatMap bndC).length = r * 3) := by
    show _ = _
    rw [flat_len bndC_len, List.length_take, Nat.min_eq_left hrl]
  have hS3d : Since w3 (w3.drew.alloc (.cells #[.string ⟨xs.toArray⟩, .bool xv, .string ⟨xt.toArray⟩] 49)) := ((Since.refl w3).drew).alloc _
  have c1a := (K1.out.next ((Since.refl w3).alloc (.cells #[.string ⟨xs.toArray⟩, .bool xv, .string ⟨xt.toArray⟩] 49))).one
  have hz3 : w.heap.size ≤ w3.heap.size := hS.size
  go_region_law (first
    | ((refine step_append_grows rfl (.tmp 13) (.tmp 15) 41 rfl 49 i0 (.agg #[.string ⟨#[]⟩, .bool false, .string ⟨#[]⟩]) 3 40 Tryd.underlying41 HI.out.1 HI.out.2.1 HI.out.2.2.1 HI.out.2.2.2 rfl (by decide) (some ⟨b, o, none⟩) r r ((L.take r).flatMap bndC) rfl (by simp) hlen.out (by intro b1 h1; cases h1; exact hold.out _ (by first | exact hS3d | exact (Since.refl _).alloc _)) ⟨w3.heap.size, 0, none⟩ 1 1 (bndC (xs, (xv, xt))) rfl rfl (cells_lit _ _ _ _ rfl) (bnd_one _) (by omega) (by unfold maxLen; omega) (by omega) ?_); intro v8 w8 hown8 hg8; have hS8 : Since w3 w8 := Since.trans (by first | exact hS3d | exact (Since.refl _).alloc _) (Below.grown (Since.refl _) hg8 (Nat.le_refl _) (fun k hk => by cases hk)); have c8 := (K1.out.next hS8).one; have hown8b := own_down (B' := w.heap.size) hown8 (Nat.le_trans hz3 (by first | exact hS3d.size | exact ((Since.refl w3).alloc _).size)); have hS8b := hS.trans hS8)
    | ((refine step_append_any rfl (.tmp 16) (.tmp 19) 41 rfl w.heap.size 49 i0 (.agg #[.string ⟨#[]⟩, .bool false, .string ⟨#[]⟩]) 3 40 Tryd.underlying41 HI.out.1 HI.out.2.1 HI.out.2.2.1 HI.out.2.2.2 rfl (by decide) v8 (r + 1) ((L.take r).flatMap bndC ++ bndC (xs, (xv, xt))) rfl hown8b w8.heap.size (if c = r then some ⟨b, o, none⟩ else some ⟨b, o + r * 3, none⟩) (L.length - r) (c - r) ((L.drop r).flatMap bndC) rfl (hread.out _ hS8) (flat_one _) (by unfold maxLen; omega) (by omega) hS8b.size ?_); intro v9 w9 hown9 hg9 _; have hB9 : Since w w9 := Below.grown hS8b hg9 hS8b.size (fun k hk => own_ge hown8b k hk)))
  all_goals
    have e9 : (L.take r).flatMap bndC ++ bndC (xs, (xv, xt)) ++ (L.drop r).flatMap bndC = (insB (xs, (xv, xt)) L).flatMap bndC := by
      rw [hcut.out, List.flatMap_append, List.flatMap_append]; simp
    rw [e9] at hown9
    clear e9
  all_goals go_wp2_with fail
  all_goals
    go_ret
    refine ⟨_, rfl, rowS_of_own hown9 ?_, hB9⟩
    rw [hcut.out]; simp; omega
end Go.Proofs.YtohcehjpdmhjlaaDoor

namespace Go.Proofs.YtohcehjpdmhjlaaDoor
open Go.RowKit

theorem bnd_single (W : World) (s : List UInt8) (xv : Bool) (xt : List UInt8) (g : Nat) (hg : W.heap.size = g) : RowOf 3 bndC (W.alloc (.cells #[.string ⟨s.toArray⟩, .bool xv, .string ⟨xt.toArray⟩] 49)) (.slice (some ⟨g, 0, none⟩) 1 1) [(s, (xv, xt))] := by
  refine ⟨_, 1, rfl, Nat.le_refl _, by unfold maxLen; omega, fun _ => ⟨g, 0, rfl, fun k hk j u hu => ?_⟩⟩
  have hk0 : k = 0 := by simp only [List.length_cons, List.length_nil] at hk; omega
  subst hk0
  have h := cells_lit W #[.string ⟨s.toArray⟩, .bool xv, .string ⟨xt.toArray⟩] 49 g hg j u (by simpa [bndC] using hu)
  rw [add_form] at h
  simpa using h
set_option maxHeartbeats 4000000 in
set_option maxRecDepth 100000 in
theorem ubind_any (v : Value) (L : List Bnd) (s : List UInt8) (tv : Bool) (tl : List UInt8) (xv : Bool) (xt : List UInt8) (w : World) (hv : RowS w v L) (hi : InvB L) (hm : L.length ≤ 1000) (hx : termS L (tv, tl) = (xv, xt)) (hs : s ≠ []) (ht : tl ≠ []) (hg : getB L s = none) (ho : ¬ (xv = true ∧ xt = s)) :
    Calls Tryd.prog 33 #[v, .string ⟨s.toArray⟩, .agg #[.bool tv, .string ⟨tl.toArray⟩]] w fun e w' => ∃ v', e = .returned (.tuple #[v', .int .i64 0]) ∧ RowS w' v' (bindP L s (xv, xt)) ∧ Since w w' := by
  have HV := Lib.hid hv
  have HCK := Lib.hid (fun W (h : RowOf 3 bndC W v L) => ucheck_any v L W h hi (by omega))
  have HG := Lib.hid (fun W (h : RowOf 3 bndC W v L) => get_any v L s W h hi.1 (by omega))
  have HT := Lib.hid (fun W (h : RowOf 3 bndC W v L) => sterm_any v L tv tl W h hi.1 (by omega))
  rw [hg] at HG
  rw [hx] at HT
  simp only [gtV] at HG
  simp only [tmV] at HT
  have HO := Lib.hid (fun W => own_any s xv xt false (by
    rw [Bool.and_eq_false_iff]
    by_cases h : xv = true
    · right
      rw [beq_eq_false_iff_ne]
      exact fun e => ho ⟨h, e⟩
    · left; rwa [Bool.not_eq_true] at h) W)
  have HU := Lib.hid (fun W g (h1 : RowOf 3 bndC W v L) (h2 : RowOf 3 bndC W (.slice (some ⟨g, 0, none⟩) 1 1) [(s, (xv, xt))]) => under_any v (.slice (some ⟨g, 0, none⟩) 1 1) L [(s, (xv, xt))] W h1 h2 trivial (by omega) (by simp))
  have HW := Lib.hid (fun W v6 (h : RowS W v6 (underB L [(s, (xv, xt))])) => with_any v6 (underB L [(s, (xv, xt))]) s xv xt W h (rises_under _ _ hi.1) (by rw [under_len]; omega))
  have hs1 : s.isEmpty = false := by rw [List.isEmpty_eq_false_iff]; exact hs
  have ht1 : tl.isEmpty = false := by rw [List.isEmpty_eq_false_iff]; exact ht
  have hS1 : Since w (w.alloc (.cells #[.bool tv, .string ⟨tl.toArray⟩] 23)) := (Since.refl _).alloc _
  have K1 : Hid (Cel (w.alloc (.cells #[.bool tv, .string ⟨tl.toArray⟩] 23)) w.heap.size #[.bool tv, .string ⟨tl.toArray⟩] 23) := heap_alloc_new w _
  clear hv hi hx hs ht hg ho
  go_enter Tryd.func33, Tryd.ntmps33
  go_wp2_with fail
  refine (HCK.out _ (HV.out.1.next hS1)).mono ?_
  rintro e w1 ⟨rfl, hb⟩
  have hS := hS1.trans hb
  replace K1 := Lib.hid (K1.out.next hb)
  clear hb hS1
  go_wp2_with fail
  refine (HG.out _ (HV.out.1.next hS)).mono ?_
  rintro e w2 ⟨rfl, hb⟩
  have hb2 := hb.alloc (.cells #[.bool false, .string ⟨#[]⟩] 23)
  replace hS := hS.trans hb2
  replace K1 := Lib.hid (K1.out.next hb2)
  clear hb hb2
  obtain ⟨k0, k1⟩ := K1.out.two
  go_wp2_with fail
  refine (HT.out _ (HV.out.1.next hS)).mono ?_
  rintro e w3 ⟨rfl, hb⟩
  have hb2 := hb.alloc (.cells #[.string ⟨s.toArray⟩, .bool xv, .string ⟨xt.toArray⟩] 49)
  have K2 : Hid (Cel (w3.alloc (.cells #[.string ⟨s.toArray⟩, .bool xv, .string ⟨xt.toArray⟩] 49)) w3.heap.size #[.string ⟨s.toArray⟩, .bool xv, .string ⟨xt.toArray⟩] 49) := heap_alloc_new w3 _
  replace hS := hS.trans hb2
  replace K1 := Lib.hid (K1.out.next hb2)
  clear hb hb2 k0 k1
  obtain ⟨k0, k1⟩ := K1.out.two
  obtain ⟨m0, m1, m2⟩ := K2.out.three
  go_wp2_with fail
  refine (HO.out _).mono ?_
  rintro e w4 ⟨rfl, hb⟩
  replace hS := hS.trans hb
  replace K1 := Lib.hid (K1.out.next hb)
  replace K2 := Lib.hid (K2.out.next hb)
  clear hb k0 k1 m0 m1 m2
  obtain ⟨k0, k1⟩ := K1.out.two
  obtain ⟨m0, m1, m2⟩ := K2.out.three
  go_wp2_with fail
  have hA : Since w4 (w4.alloc (.cells #[.string ⟨s.toArray⟩, .bool xv, .string ⟨xt.toArray⟩] 49)) := (Since.refl _).alloc _
  have r1 := bnd_single w4 s xv xt w4.heap.size rfl
  have r1d : RowOf 3 bndC (w4.alloc (.cells #[.string ⟨s.toArray⟩, .bool xv, .string ⟨xt.toArray⟩] 49)).drew (.slice (some ⟨w4.heap.size, 0, none⟩) 1 1) [(s, (xv, xt))] := r1
  have r2 := HV.out.1.next (hS.trans hA)
  have r2d : RowOf 3 bndC (w4.alloc (.cells #[.string ⟨s.toArray⟩, .bool xv, .string ⟨xt.toArray⟩] 49)).drew v L := r2
  obtain ⟨n0, n1, n2⟩ := (K2.out.next hA).three
  have KA := Lib.hid (K2.out.next hA)
  have hAS := hS.trans hA
  have hASd : Since w (w4.alloc (.cells #[.string ⟨s.toArray⟩, .bool xv, .string ⟨xt.toArray⟩] 49)).drew := hAS.drew
  have KAd : Hid (Cel (w4.alloc (.cells #[.string ⟨s.toArray⟩, .bool xv, .string ⟨xt.toArray⟩] 49)).drew w3.heap.size #[.string ⟨s.toArray⟩, .bool xv, .string ⟨xt.toArray⟩] 49) := KA.out
  go_region_law (first
    | (go_simp; go_at_call 47; (with_reducible refine Calls.mono (HU.out _ _ ?_ ?_) ?_); (first | exact r2d | exact r2); (first | exact r1d | exact r1); rintro e w6 ⟨v6, rfl, hv6, hb6⟩; have hS6 : Since w w6 := (by first | exact hASd.trans hb6 | exact hAS.trans hb6); obtain ⟨p0, p1, p2⟩ := (by first | exact (KAd.out.next hb6).three | exact (KA.out.next hb6).three))
    | (go_simp; go_at_call 46; (with_reducible refine Calls.mono (HW.out _ _ ?_) ?_); exact hv6; rintro e w7 ⟨v7, rfl, hv7, hb7⟩; have hS7 := hS6.trans hb7))
  all_goals go_wp2_with fail
  all_goals
    go_ret2
    exact ⟨_, rfl, hv7, hS7⟩
end Go.Proofs.YtohcehjpdmhjlaaDoor
