/- Bindings in memory; what package subst tells of them: rising, what stands for a name, a term under them; sort.Search. -/
import Derived.Test.YtdlnmkdbjgbimaaGreatDoorUniQ
import Derived.Test.YtdlnmkdbjgbimaaGreatDoorRow
import Derived.Test.YtdlnmkdbjgbimaaGreatDoorCel
import Derived.Sort.Walk0
import Derived.Deep.RegionHeld3
import Derived.Deep.QuietTactic
import Derived.BigQuiet
namespace Go.Proofs.YtdlnmkdbjgbimaaGreatDoor
open Go.RowKit

theorem less_lt (x y : List UInt8) : Op.bytesLess x y = decide (x < y) := bytesLess_eq x y
/-- A binding's three cells. -/
def bndC (b : Bnd) : List Value := [.string ⟨b.1.toArray⟩, .bool b.2.1, .string ⟨b.2.2.toArray⟩]
theorem bndC_len (b : Bnd) : (bndC b).length = 3 := rfl
def BndAt (W : World) (b o : Nat) (x : Bnd) : Prop :=
  W.cell? ⟨b, o, none⟩ = some (.string ⟨x.1.toArray⟩) ∧ W.cell? ⟨b, o + 1, none⟩ = some (.bool x.2.1) ∧ W.cell? ⟨b, o + 2, none⟩ = some (.string ⟨x.2.2.toArray⟩)
theorem BndAt.next {W W' : World} {b o : Nat} {x : Bnd} (h : BndAt W b o x) (hs : Since W W') : BndAt W' b o x := ⟨hs.cell h.1, hs.cell h.2.1, hs.cell h.2.2⟩
theorem bnd_get {W : World} {a : Option Addr} {n c : Nat} {L : List Bnd} (h : RowOf 3 bndC W (.slice a n c) L) (h0 : 0 < L.length) : ∃ b o, a = some ⟨b, o, none⟩ ∧ n = L.length ∧ n ≤ c ∧ ∀ k, (hk : k < L.length) → BndAt W b (o + k * 3) L[k] := by
  obtain ⟨a', c', h1, h2, h3, h4⟩ := h
  injection h1 with h1 h5 h6
  subst h1 h5 h6
  obtain ⟨b, o, rfl, hc⟩ := h4 h0
  exact ⟨b, o, rfl, rfl, h2, fun k hk => ⟨hc k hk 0 _ rfl, hc k hk 1 _ rfl, hc k hk 2 _ rfl⟩⟩
theorem rises_at : ∀ {L : List Bnd} {k : Nat}, Rises L → (h : k + 1 < L.length) → L[k].1 < L[k + 1].1
  | [], _, _, h => by simp at h
  | [a], _, _, h => by simp at h
  | a :: b :: r, 0, hr, h => hr.1
  | a :: b :: r, k + 1, hr, h => rises_at (L := b :: r) hr.2 (by simpa using h)
set_option maxHeartbeats 1000000 in
set_option maxRecDepth 100000 in
theorem rises_any (v : Value) (L : List Bnd) (w : World) (hv : RowOf 3 bndC w v L) (hR : Rises L) (hm : L.length ≤ 1000000) :
    Calls Tryz.prog 83 #[v] w fun e w' => e = .returned (.bool true) ∧ Since w w' := by
  obtain ⟨a, c, rfl⟩ := hv.form
  have HV := Lib.hid hv
  have HR := Lib.hid hR
  clear hv hR
  go_enter Tryz.func83, Tryz.ntmps83
  go_wp2_with fail
  go_loopw [3, 6] (fun _ i wr => ∃ k : Nat, k ≤ L.length ∧ i = .int .i64 (k : Int) ∧ Since w wr) (fun _ i _ => L.length - (intOf i).toNat)
  case atStart => exact ⟨0, by omega, rfl, Since.refl _⟩
  case round =>
    obtain ⟨k, hk, rfl, hS⟩ := hrel
    by_cases hlt : k < L.length
    · cases k with
      | zero =>
        have h0 : decide ((0 : Int) < 0) = false := rfl
        go_wp2_with fail
        go_quiet (fail)
        go_wp2_with fail
        go_roundw
        case rel => exact ⟨1, by omega, by go_num, hS.drewN _⟩
        case measure => simp [intOf]; omega
      | succ m =>
        obtain ⟨b, o, he, _, hc, hat⟩ := bnd_get (HV.out.next hS) (by omega)
        cases he
        have hx := (hat m (by omega)).1
        have hy := (hat (m + 1) hlt).1
        have hst := rises_at HR.out hlt
        clear hat
        generalize L[m] = x at *
        generalize L[m + 1] = y at *
        obtain ⟨xs, xt⟩ := x
        obtain ⟨ys, yt⟩ := y
        have hst2 : Op.bytesLess xs ys = true := (less_lt xs ys).trans (decide_eq_true hst)
        have hg0 : decide ((0 : Int) < (m : Int) + 1) = true := decide_eq_true (by omega)
        have hg1 : IntKind.i64.wrap ((m : Int) + 1 - 1) = (m : Int) := by rw [IntWalk.i64_in _ (by omega)]; omega
        have hg5 : IntKind.i64.wrap (m : Int) = (m : Int) := IntWalk.i64_in _ (by omega)
        have hg6 : (0 : Int) ≤ (m : Int) := by omega
        have hg2 : (m : Int) < (L.length : Int) := by omega
        have hg3 : (m : Int) + 1 < (L.length : Int) := by omega
        have hg4 : (0 : Int) ≤ (m : Int) + 1 := by omega
        simp only at hx hy hst hst2
        go_wp2_with fail
        go_quiet (fail)
        go_wp2_with fail
        go_roundw
        case rel => exact ⟨m + 1 + 1, by omega, by go_num, hS.drewN _⟩
        case measure => simp [intOf]; omega
    · go_wp2_with fail
      go_ret
      exact ⟨rfl, hS⟩
theorem getB_step {L : List Bnd} {k : Nat} (h : k < L.length) (s : List UInt8) : getB (L.drop k) s = if L[k].1 == s then some L[k].2 else getB (L.drop (k + 1)) s := by
  rw [List.drop_eq_getElem_cons h, getB]
  by_cases he : L[k].1 = s
  · rw [if_pos he, if_pos (by simpa using he)]
  · rw [if_neg he, if_neg (by simpa using he)]
theorem getB_end {L : List Bnd} {k : Nat} (h : ¬ k < L.length) (s : List UInt8) : getB (L.drop k) s = none := by
  rw [List.drop_eq_nil_of_le (by omega)]; rfl
def gtV : Option Tm → Value
  | some t => .tuple #[.agg #[.bool t.1, .string ⟨t.2.toArray⟩], .bool true]
  | none => .tuple #[.agg #[.bool false, .string ⟨#[]⟩], .bool false]
set_option maxHeartbeats 1000000 in
set_option maxRecDepth 100000 in
theorem rget_any (v : Value) (L : List Bnd) (s : List UInt8) (w : World) (hv : RowOf 3 bndC w v L) (hm : L.length ≤ 1000000) :
    Calls Tryz.prog 96 #[v, .string ⟨s.toArray⟩] w fun e w' => e = .returned (gtV (getB L s)) ∧ Since w w' := by
  obtain ⟨a, c, rfl⟩ := hv.form
  have HV := Lib.hid hv
  obtain ⟨R, hR⟩ : ∃ R, Hid (R = gtV (getB L s)) := ⟨_, rfl⟩
  have hR0 : Hid (R = gtV (getB (L.drop 0) s)) := hR
  rw [← hR.out]
  clear hv hR
  go_enter Tryz.func96, Tryz.ntmps96
  go_wp2_with fail
  go_loopw [6] (fun i wr => ∃ k : Nat, k ≤ L.length ∧ i = .int .i64 (k : Int) ∧ Since w wr ∧ Hid (Cel wr w.heap.size #[.bool false, .string ⟨#[]⟩] 26) ∧ Hid (R = gtV (getB (L.drop k) s))) (fun i _ => L.length - (intOf i).toNat)
  case atStart => exact ⟨0, by omega, rfl, (Since.refl _).alloc _, heap_alloc_new w _, hR0.out⟩
  case round =>
    clear hR0
    obtain ⟨k, hk, rfl, hS, hC, hres⟩ := hrel
    have hw0 : w.heap.size < wr.heap.size := hC.out.lt
    by_cases hlt : k < L.length
    · obtain ⟨b, o, he, _, hc, hat⟩ := bnd_get (HV.out.next hS) (by omega)
      cases he
      obtain ⟨d0, d1, d2⟩ := hat k hlt
      have hst := getB_step hlt s
      have hg2 : (k : Int) < (L.length : Int) := by omega
      have HST := Lib.hid hst
      clear hat hst
      generalize L[k] = x at *
      obtain ⟨xs, xv, xt⟩ := x
      simp only at d0 d1 d2 HST
      cases he : (xs == s)
      · have hnx : Hid (R = gtV (getB (L.drop (k + 1)) s)) := by
          show _ = _
          rw [hres.out, HST.out, he]; rfl
        clear HST hres
        go_wp2_with fail
        go_roundw
        case rel => exact ⟨k + 1, by omega, by go_num, hS, hC.out, hnx.out⟩
        case measure => simp [intOf]; omega
      · have hnx : Hid (R = gtV (some (xv, xt))) := by
          show _ = _
          rw [hres.out, HST.out, he]; rfl
        clear HST hres
        obtain ⟨z0, z1⟩ := hC.out.two
        have hfr := hC.out.free
        have hC2 : Cel ((wr.setCell ⟨w.heap.size, 0, none⟩ (.bool xv)).setCell ⟨w.heap.size, 1, none⟩ (.string ⟨xt.toArray⟩)) w.heap.size #[.bool xv, .string ⟨xt.toArray⟩] 26 := (hC.out.set (ds := #[.bool xv, .string ⟨#[]⟩]) rfl).set rfl
        obtain ⟨e0, e1⟩ := hC2.two
        go_wp2_with fail
        refine bodyPost_ret (v := .tuple #[.agg #[.bool xv, .string ⟨xt.toArray⟩], .bool true]) (by simp [results, Tryz.results96, go_sem, e0, e1]) rfl ?_
        exact ⟨by rw [hnx.out]; rfl, (hS.setCell (Nat.le_refl _) _).setCell (Nat.le_refl _) _⟩
    · have hnx : Hid (R = gtV none) := by
        show _ = _
        rw [hres.out, getB_end hlt]
      clear hres
      obtain ⟨z0, z1⟩ := hC.out.two
      have hfr := hC.out.free
      have hC2 : Cel ((wr.setCell ⟨w.heap.size, 0, none⟩ (.bool false)).setCell ⟨w.heap.size, 1, none⟩ (.string ⟨#[]⟩)) w.heap.size #[.bool false, .string ⟨#[]⟩] 26 := (hC.out.set (ds := #[.bool false, .string ⟨#[]⟩]) rfl).set rfl
      obtain ⟨e0, e1⟩ := hC2.two
      go_wp2_with fail
      refine bodyPost_ret (v := .tuple #[.agg #[.bool false, .string ⟨#[]⟩], .bool false]) (by simp [results, Tryz.results96, go_sem, e0, e1]) rfl ?_
      exact ⟨by rw [hnx.out]; rfl, (hS.setCell (Nat.le_refl _) _).setCell (Nat.le_refl _) _⟩
end Go.Proofs.YtdlnmkdbjgbimaaGreatDoor
