/- Package subst: binding a variable (Bind), where it may be. -/
import Derived.Test.YtdlnmkdbjgbimaaGreatDoorUniG
namespace Go.Proofs.YtdlnmkdbjgbimaaGreatDoor
open Go.RowKit

theorem bnd_single (W : World) (s : List UInt8) (xv : Bool) (xt : List UInt8) (g : Nat) (hg : W.heap.size = g) : RowOf 3 bndC (W.alloc (.cells #[.string ⟨s.toArray⟩, .bool xv, .string ⟨xt.toArray⟩] 101)) (.slice (some ⟨g, 0, none⟩) 1 1) [(s, (xv, xt))] := by
  refine ⟨_, 1, rfl, Nat.le_refl _, by unfold maxLen; omega, fun _ => ⟨g, 0, rfl, fun k hk j u hu => ?_⟩⟩
  have hk0 : k = 0 := by simp only [List.length_cons, List.length_nil] at hk; omega
  subst hk0
  have h := cells_lit W #[.string ⟨s.toArray⟩, .bool xv, .string ⟨xt.toArray⟩] 101 g hg j u (by simpa [bndC] using hu)
  rw [add_form] at h
  simpa using h
set_option maxHeartbeats 4000000 in
set_option maxRecDepth 100000 in
theorem ubind_any (v : Value) (L : List Bnd) (s : List UInt8) (tv : Bool) (tl : List UInt8) (xv : Bool) (xt : List UInt8) (w : World) (hv : RowS w v L) (hi : InvB L) (hm : L.length ≤ 1000) (hx : termS L (tv, tl) = (xv, xt)) (hs : s ≠ []) (ht : tl ≠ []) (hg : getB L s = none) (ho : ¬ (xv = true ∧ xt = s)) :
    Calls Tryz.prog 69 #[v, .string ⟨s.toArray⟩, .agg #[.bool tv, .string ⟨tl.toArray⟩]] w fun e w' => ∃ v', e = .returned (.tuple #[v', .int .i64 0]) ∧ RowS w' v' (bindP L s (xv, xt)) ∧ Since w w' := by
  have HV := Lib.hid hv
  have HCK := Lib.hid (fun W (h : RowOf 3 bndC W v L) => ucheck_any v L W h hi (by omega))
  have HG := Lib.hid (fun W (h : RowOf 3 bndC W v L) => get_any v L s W h hi.1 (by omega))
  have HT := Lib.hid (fun W (h : RowOf 3 bndC W v L) => sterm_any v L tv tl W h hi.1 (by omega))
  rw [hg] at HG
  rw [hx] at HT
  simp only [gtV] at HG
  simp only [tmV] at HT
  have HO := Lib.hid (fun W => own_any s xv xt false (by
    rw [Bool.and_eq_false_iff]
    by_cases h : xv = true
    · right
      rw [beq_eq_false_iff_ne]
      exact fun e => ho ⟨h, e⟩
    · left; rwa [Bool.not_eq_true] at h) W)
  have HU := Lib.hid (fun W g (h1 : RowOf 3 bndC W v L) (h2 : RowOf 3 bndC W (.slice (some ⟨g, 0, none⟩) 1 1) [(s, (xv, xt))]) => under_any v (.slice (some ⟨g, 0, none⟩) 1 1) L [(s, (xv, xt))] W h1 h2 trivial (by omega) (by simp))
  have HW := Lib.hid (fun W v6 (h : RowS W v6 (underB L [(s, (xv, xt))])) => with_any v6 (underB L [(s, (xv, xt))]) s xv xt W h (rises_under _ _ hi.1) (by rw [under_len]; omega))
  have hs1 : s.isEmpty = false := by rw [List.isEmpty_eq_false_iff]; exact hs
  have ht1 : tl.isEmpty = false := by rw [List.isEmpty_eq_false_iff]; exact ht
  have hS1 : Since w (w.alloc (.cells #[.bool tv, .string ⟨tl.toArray⟩] 26)) := (Since.refl _).alloc _
  have K1 : Hid (Cel (w.alloc (.cells #[.bool tv, .string ⟨tl.toArray⟩] 26)) w.heap.size #[.bool tv, .string ⟨tl.toArray⟩] 26) := heap_alloc_new w _
  clear hv hi hx hs ht hg ho
  go_enter Tryz.func69, Tryz.ntmps69
  go_wp2_with fail
  refine (HCK.out _ (HV.out.1.next hS1)).mono ?_
  rintro e w1 ⟨rfl, hb⟩
  have hS := hS1.trans hb
  replace K1 := Lib.hid (K1.out.next hb)
  clear hb hS1
  go_wp2_with fail
  refine (HG.out _ (HV.out.1.next hS)).mono ?_
  rintro e w2 ⟨rfl, hb⟩
  have hb2 := hb.alloc (.cells #[.bool false, .string ⟨#[]⟩] 26)
  replace hS := hS.trans hb2
  replace K1 := Lib.hid (K1.out.next hb2)
  clear hb hb2
  obtain ⟨k0, k1⟩ := K1.out.two
  go_wp2_with fail
  refine (HT.out _ (HV.out.1.next hS)).mono ?_
  rintro e w3 ⟨rfl, hb⟩
  have hb2 := hb.alloc (.cells #[.string ⟨s.toArray⟩, .bool xv, .string ⟨xt.toArray⟩] 101)
  have K2 : Hid (Cel (w3.alloc (.cells #[.string ⟨s.toArray⟩, .bool xv, .string ⟨xt.toArray⟩] 101)) w3.heap.size #[.string ⟨s.toArray⟩, .bool xv, .string ⟨xt.toArray⟩] 101) := heap_alloc_new w3 _
  replace hS := hS.trans hb2
  replace K1 := Lib.hid (K1.out.next hb2)
  clear hb hb2 k0 k1
  obtain ⟨k0, k1⟩ := K1.out.two
  obtain ⟨m0, m1, m2⟩ := K2.out.three
  go_wp2_with fail
  refine (HO.out _).mono ?_
  rintro e w4 ⟨rfl, hb⟩
  replace hS := hS.trans hb
  replace K1 := Lib.hid (K1.out.next hb)
  replace K2 := Lib.hid (K2.out.next hb)
  clear hb k0 k1 m0 m1 m2
  obtain ⟨k0, k1⟩ := K1.out.two
  obtain ⟨m0, m1, m2⟩ := K2.out.three
  go_wp2_with fail
  have hA : Since w4 (w4.alloc (.cells #[.string ⟨s.toArray⟩, .bool xv, .string ⟨xt.toArray⟩] 101)) := (Since.refl _).alloc _
  have r1 := bnd_single w4 s xv xt w4.heap.size rfl
  have r1d : RowOf 3 bndC (w4.alloc (.cells #[.string ⟨s.toArray⟩, .bool xv, .string ⟨xt.toArray⟩] 101)).drew (.slice (some ⟨w4.heap.size, 0, none⟩) 1 1) [(s, (xv, xt))] := r1
  have r2 := HV.out.1.next (hS.trans hA)
  have r2d : RowOf 3 bndC (w4.alloc (.cells #[.string ⟨s.toArray⟩, .bool xv, .string ⟨xt.toArray⟩] 101)).drew v L := r2
  obtain ⟨n0, n1, n2⟩ := (K2.out.next hA).three
  have KA := Lib.hid (K2.out.next hA)
  have hAS := hS.trans hA
  have hASd : Since w (w4.alloc (.cells #[.string ⟨s.toArray⟩, .bool xv, .string ⟨xt.toArray⟩] 101)).drew := hAS.drew
  have KAd : Hid (Cel (w4.alloc (.cells #[.string ⟨s.toArray⟩, .bool xv, .string ⟨xt.toArray⟩] 101)).drew w3.heap.size #[.string ⟨s.toArray⟩, .bool xv, .string ⟨xt.toArray⟩] 101) := KA.out
  go_region_law (first
    | (go_simp; go_at_call 89; (with_reducible refine Calls.mono (HU.out _ _ ?_ ?_) ?_); (first | exact r2d | exact r2); (first | exact r1d | exact r1); rintro e w6 ⟨v6, rfl, hv6, hb6⟩; have hS6 : Since w w6 := (by first | exact hASd.trans hb6 | exact hAS.trans hb6); obtain ⟨p0, p1, p2⟩ := (by first | exact (KAd.out.next hb6).three | exact (KA.out.next hb6).three))
    | (go_simp; go_at_call 88; (with_reducible refine Calls.mono (HW.out _ _ ?_) ?_); exact hv6; rintro e w7 ⟨v7, rfl, hv7, hb7⟩; have hS7 := hS6.trans hb7))
  all_goals go_wp2_with fail
  all_goals
    go_ret2
    exact ⟨_, rfl, hv7, hS7⟩
end Go.Proofs.YtdlnmkdbjgbimaaGreatDoor
