/- Package subst and the reference: a term under bindings, is a binding of a variable to itself, and what may be. -/
import Derived.Test.YtdlnmkdbjgbimaaGreatDoorUniC
namespace Go.Proofs.YtdlnmkdbjgbimaaGreatDoor
open Go.RowKit

set_option maxHeartbeats 2000000 in
set_option maxRecDepth 100000 in
theorem sterm_any (v : Value) (L : List Bnd) (tv : Bool) (tl : List UInt8) (w : World) (hv : RowOf 3 bndC w v L) (hr : Rises L) (hm : L.length ≤ 1000000) :
    Calls Tryz.prog 86 #[v, .agg #[.bool tv, .string ⟨tl.toArray⟩]] w fun e w' => e = .returned (tmV (termS L (tv, tl))) ∧ Since w w' := by
  have HV := Lib.hid hv
  have HG := Lib.hid (fun W (h : RowOf 3 bndC W v L) => get_any v L tl W h hr hm)
  have hS1 : Since w ((w.alloc (.cells #[.bool tv, .string ⟨tl.toArray⟩] 26)).alloc (.cells #[.bool false, .string ⟨#[]⟩] 26)) := ((Since.refl _).alloc _).alloc _
  have K1 : Hid (Cel ((w.alloc (.cells #[.bool tv, .string ⟨tl.toArray⟩] 26)).alloc (.cells #[.bool false, .string ⟨#[]⟩] 26)) w.heap.size #[.bool tv, .string ⟨tl.toArray⟩] 26) := Lib.hid ((show Cel (w.alloc (.cells #[.bool tv, .string ⟨tl.toArray⟩] 26)) w.heap.size #[.bool tv, .string ⟨tl.toArray⟩] 26 from heap_alloc_new w _).next ((Since.refl _).alloc _))
  have K2 : Hid (Cel ((w.alloc (.cells #[.bool tv, .string ⟨tl.toArray⟩] 26)).alloc (.cells #[.bool false, .string ⟨#[]⟩] 26)) (w.heap.size + 1) #[.bool false, .string ⟨#[]⟩] 26) := by
    have h := heap_alloc_new (w.alloc (.cells #[.bool tv, .string ⟨tl.toArray⟩] 26)) (.cells #[.bool false, .string ⟨#[]⟩] 26)
    rw [World.size_alloc] at h
    exact h
  clear hv hr
  cases hg : getB L tl with
  | none =>
    rw [hg] at HG
    simp only [gtV] at HG
    cases htv : tv
    · subst htv
      have hT : termS L (false, tl) = (false, tl) := by unfold termS; rfl
      go_enter Tryz.func86, Tryz.ntmps86
      obtain ⟨k0, k1⟩ := K1.out.two
      go_wp2_with fail
      refine (HG.out _ (HV.out.next hS1)).mono ?_
      rintro e w2 ⟨rfl, hb⟩
      have hS := hS1.trans hb
      have h2 : Since w2 (w2.alloc (.cells #[.bool false, .string ⟨#[]⟩] 26)) := (Since.refl _).alloc _
      replace K1 := Lib.hid ((K1.out.next hb).next h2)
      replace K2 := Lib.hid ((K2.out.next hb).next h2)
      have K3 : Cel (w2.alloc (.cells #[.bool false, .string ⟨#[]⟩] 26)) w2.heap.size #[.bool false, .string ⟨#[]⟩] 26 := heap_alloc_new w2 _
      replace hS := hS.trans h2
      clear k0 k1 hb h2
      obtain ⟨k0, k1⟩ := K1.out.two
      obtain ⟨z0, z1⟩ := K2.out.two
      obtain ⟨q0, q1⟩ := K3.two
      have hfr := K2.out.free
      have hlt := K2.out.lt
      have K2x : Cel (((w2.alloc (.cells #[.bool false, .string ⟨#[]⟩] 26)).setCell ⟨w.heap.size + 1, 0, none⟩ (.bool false)).setCell ⟨w.heap.size + 1, 1, none⟩ (.string ⟨tl.toArray⟩)) (w.heap.size + 1) #[.bool false, .string ⟨tl.toArray⟩] 26 := (K2.out.set (ds := #[.bool false, .string ⟨#[]⟩]) rfl).set rfl
      obtain ⟨y0, y1⟩ := K2x.two
      go_wp2_with fail
      refine bodyPost_ret (v := .agg #[.bool false, .string ⟨tl.toArray⟩]) (by simp [results, Tryz.results86, go_sem, y0, y1]) rfl ?_
      exact ⟨by rw [hT]; rfl, (hS.setCell (Nat.le_add_right _ _) _).setCell (Nat.le_add_right _ _) _⟩
    · subst htv
      have hT : termS L (true, tl) = (true, tl) := by unfold termS; rw [hg]; rfl
      go_enter Tryz.func86, Tryz.ntmps86
      obtain ⟨k0, k1⟩ := K1.out.two
      go_wp2_with fail
      refine (HG.out _ (HV.out.next hS1)).mono ?_
      rintro e w2 ⟨rfl, hb⟩
      have hS := hS1.trans hb
      have h2 : Since w2 (w2.alloc (.cells #[.bool false, .string ⟨#[]⟩] 26)) := (Since.refl _).alloc _
      replace K1 := Lib.hid ((K1.out.next hb).next h2)
      replace K2 := Lib.hid ((K2.out.next hb).next h2)
      have K3 : Cel (w2.alloc (.cells #[.bool false, .string ⟨#[]⟩] 26)) w2.heap.size #[.bool false, .string ⟨#[]⟩] 26 := heap_alloc_new w2 _
      replace hS := hS.trans h2
      clear k0 k1 hb h2
      obtain ⟨k0, k1⟩ := K1.out.two
      obtain ⟨z0, z1⟩ := K2.out.two
      obtain ⟨q0, q1⟩ := K3.two
      have hfr := K2.out.free
      have hlt := K2.out.lt
      have K2x : Cel (((w2.alloc (.cells #[.bool false, .string ⟨#[]⟩] 26)).setCell ⟨w.heap.size + 1, 0, none⟩ (.bool true)).setCell ⟨w.heap.size + 1, 1, none⟩ (.string ⟨tl.toArray⟩)) (w.heap.size + 1) #[.bool true, .string ⟨tl.toArray⟩] 26 := (K2.out.set (ds := #[.bool true, .string ⟨#[]⟩]) rfl).set rfl
      obtain ⟨y0, y1⟩ := K2x.two
      go_wp2_with fail
      refine bodyPost_ret (v := .agg #[.bool true, .string ⟨tl.toArray⟩]) (by simp [results, Tryz.results86, go_sem, y0, y1]) rfl ?_
      exact ⟨by rw [hT]; rfl, (hS.setCell (Nat.le_add_right _ _) _).setCell (Nat.le_add_right _ _) _⟩
  | some x =>
    rw [hg] at HG
    simp only [gtV] at HG
    obtain ⟨xv, xl⟩ := x
    simp only at HG
    cases htv : tv
    · subst htv
      have hT : termS L (false, tl) = (false, tl) := by unfold termS; rfl
      go_enter Tryz.func86, Tryz.ntmps86
      obtain ⟨k0, k1⟩ := K1.out.two
      go_wp2_with fail
      refine (HG.out _ (HV.out.next hS1)).mono ?_
      rintro e w2 ⟨rfl, hb⟩
      have hS := hS1.trans hb
      have h2 : Since w2 (w2.alloc (.cells #[.bool xv, .string ⟨xl.toArray⟩] 26)) := (Since.refl _).alloc _
      replace K1 := Lib.hid ((K1.out.next hb).next h2)
      replace K2 := Lib.hid ((K2.out.next hb).next h2)
      have K3 : Cel (w2.alloc (.cells #[.bool xv, .string ⟨xl.toArray⟩] 26)) w2.heap.size #[.bool xv, .string ⟨xl.toArray⟩] 26 := heap_alloc_new w2 _
      replace hS := hS.trans h2
      clear k0 k1 hb h2
      obtain ⟨k0, k1⟩ := K1.out.two
      obtain ⟨z0, z1⟩ := K2.out.two
      obtain ⟨q0, q1⟩ := K3.two
      have hfr := K2.out.free
      have hlt := K2.out.lt
      have K2x : Cel (((w2.alloc (.cells #[.bool xv, .string ⟨xl.toArray⟩] 26)).setCell ⟨w.heap.size + 1, 0, none⟩ (.bool false)).setCell ⟨w.heap.size + 1, 1, none⟩ (.string ⟨tl.toArray⟩)) (w.heap.size + 1) #[.bool false, .string ⟨tl.toArray⟩] 26 := (K2.out.set (ds := #[.bool false, .string ⟨#[]⟩]) rfl).set rfl
      obtain ⟨y0, y1⟩ := K2x.two
      go_wp2_with fail
      refine bodyPost_ret (v := .agg #[.bool false, .string ⟨tl.toArray⟩]) (by simp [results, Tryz.results86, go_sem, y0, y1]) rfl ?_
      exact ⟨by rw [hT]; rfl, (hS.setCell (Nat.le_add_right _ _) _).setCell (Nat.le_add_right _ _) _⟩
    · subst htv
      have hT : termS L (true, tl) = (xv, xl) := by unfold termS; rw [hg]; rfl
      go_enter Tryz.func86, Tryz.ntmps86
      obtain ⟨k0, k1⟩ := K1.out.two
      go_wp2_with fail
      refine (HG.out _ (HV.out.next hS1)).mono ?_
      rintro e w2 ⟨rfl, hb⟩
      have hS := hS1.trans hb
      have h2 : Since w2 (w2.alloc (.cells #[.bool xv, .string ⟨xl.toArray⟩] 26)) := (Since.refl _).alloc _
      replace K1 := Lib.hid ((K1.out.next hb).next h2)
      replace K2 := Lib.hid ((K2.out.next hb).next h2)
      have K3 : Cel (w2.alloc (.cells #[.bool xv, .string ⟨xl.toArray⟩] 26)) w2.heap.size #[.bool xv, .string ⟨xl.toArray⟩] 26 := heap_alloc_new w2 _
      replace hS := hS.trans h2
      clear k0 k1 hb h2
      obtain ⟨k0, k1⟩ := K1.out.two
      obtain ⟨z0, z1⟩ := K2.out.two
      obtain ⟨q0, q1⟩ := K3.two
      have hfr := K2.out.free
      have hlt := K2.out.lt
      have K2x : Cel (((w2.alloc (.cells #[.bool xv, .string ⟨xl.toArray⟩] 26)).setCell ⟨w.heap.size + 1, 0, none⟩ (.bool xv)).setCell ⟨w.heap.size + 1, 1, none⟩ (.string ⟨xl.toArray⟩)) (w.heap.size + 1) #[.bool xv, .string ⟨xl.toArray⟩] 26 := (K2.out.set (ds := #[.bool xv, .string ⟨#[]⟩]) rfl).set rfl
      obtain ⟨y0, y1⟩ := K2x.two
      go_wp2_with fail
      refine bodyPost_ret (v := .agg #[.bool xv, .string ⟨xl.toArray⟩]) (by simp [results, Tryz.results86, go_sem, y0, y1]) rfl ?_
      exact ⟨by rw [hT]; rfl, (hS.setCell (Nat.le_add_right _ _) _).setCell (Nat.le_add_right _ _) _⟩
set_option maxHeartbeats 2000000 in
set_option maxRecDepth 100000 in
theorem rtermb_any (v : Value) (L : List Bnd) (tv : Bool) (tl : List UInt8) (w : World) (hv : RowOf 3 bndC w v L) (hm : L.length ≤ 1000000) :
    Calls Tryz.prog 105 #[v, .agg #[.bool tv, .string ⟨tl.toArray⟩]] w fun e w' => e = .returned (tmV (termS L (tv, tl))) ∧ Since w w' := by
  have HV := Lib.hid hv
  have HG := Lib.hid (fun W (h : RowOf 3 bndC W v L) => rget_any v L tl W h hm)
  have hS1 : Since w ((w.alloc (.cells #[.bool tv, .string ⟨tl.toArray⟩] 26)).alloc (.cells #[.bool false, .string ⟨#[]⟩] 26)) := ((Since.refl _).alloc _).alloc _
  have K1 : Hid (Cel ((w.alloc (.cells #[.bool tv, .string ⟨tl.toArray⟩] 26)).alloc (.cells #[.bool false, .string ⟨#[]⟩] 26)) w.heap.size #[.bool tv, .string ⟨tl.toArray⟩] 26) := Lib.hid ((show Cel (w.alloc (.cells #[.bool tv, .string ⟨tl.toArray⟩] 26)) w.heap.size #[.bool tv, .string ⟨tl.toArray⟩] 26 from heap_alloc_new w _).next ((Since.refl _).alloc _))
  have K2 : Hid (Cel ((w.alloc (.cells #[.bool tv, .string ⟨tl.toArray⟩] 26)).alloc (.cells #[.bool false, .string ⟨#[]⟩] 26)) (w.heap.size + 1) #[.bool false, .string ⟨#[]⟩] 26) := by
    have h := heap_alloc_new (w.alloc (.cells #[.bool tv, .string ⟨tl.toArray⟩] 26)) (.cells #[.bool false, .string ⟨#[]⟩] 26)
    rw [World.size_alloc] at h
    exact h
  clear hv
  obtain ⟨k0, k1⟩ := K1.out.two
  cases htv : tv
  · subst htv
    have hT : termS L (false, tl) = (false, tl) := rfl
    obtain ⟨z0, z1⟩ := K2.out.two
    have hfr := K2.out.free
    have hlt := K2.out.lt
    go_enter Tryz.func105, Tryz.ntmps105
    go_wp2_with fail
    refine bodyPost_ret (v := .agg #[.bool false, .string ⟨tl.toArray⟩]) (by simp [results, Tryz.results105, go_sem]) rfl ?_
    exact ⟨by rw [hT]; rfl, ((Since.refl _).alloc _).alloc _⟩
  · subst htv
    cases hg : getB L tl with
    | none =>
      rw [hg] at HG
      simp only [gtV] at HG
      have hT : termS L (true, tl) = (true, tl) := by unfold termS; rw [hg]; rfl
      go_enter Tryz.func105, Tryz.ntmps105
      go_wp2_with fail
      refine (HG.out _ (HV.out.next hS1)).mono ?_
      rintro e w2 ⟨rfl, hb⟩
      have hS := hS1.trans hb
      have h2 : Since w2 (w2.alloc (.cells #[.bool false, .string ⟨#[]⟩] 26)) := (Since.refl _).alloc _
      replace K1 := Lib.hid ((K1.out.next hb).next h2)
      replace K2 := Lib.hid ((K2.out.next hb).next h2)
      have K3 : Cel (w2.alloc (.cells #[.bool false, .string ⟨#[]⟩] 26)) w2.heap.size #[.bool false, .string ⟨#[]⟩] 26 := heap_alloc_new w2 _
      replace hS := hS.trans h2
      clear k0 k1 hb h2
      obtain ⟨k0, k1⟩ := K1.out.two
      obtain ⟨z0, z1⟩ := K2.out.two
      obtain ⟨q0, q1⟩ := K3.two
      have hfr := K2.out.free
      have hlt := K2.out.lt
      have K2x : Cel (((w2.alloc (.cells #[.bool false, .string ⟨#[]⟩] 26)).setCell ⟨w.heap.size + 1, 0, none⟩ (.bool true)).setCell ⟨w.heap.size + 1, 1, none⟩ (.string ⟨tl.toArray⟩)) (w.heap.size + 1) #[.bool true, .string ⟨tl.toArray⟩] 26 := (K2.out.set (ds := #[.bool true, .string ⟨#[]⟩]) rfl).set rfl
      obtain ⟨y0, y1⟩ := K2x.two
      go_wp2_with fail
      refine bodyPost_ret (v := .agg #[.bool true, .string ⟨tl.toArray⟩]) (by simp [results, Tryz.results105, go_sem, y0, y1]) rfl ?_
      exact ⟨by rw [hT]; rfl, (hS.setCell (Nat.le_add_right _ _) _).setCell (Nat.le_add_right _ _) _⟩
    | some x =>
      rw [hg] at HG
      simp only [gtV] at HG
      obtain ⟨xv, xl⟩ := x
      simp only at HG
      have hT : termS L (true, tl) = (xv, xl) := by unfold termS; rw [hg]; rfl
      go_enter Tryz.func105, Tryz.ntmps105
      go_wp2_with fail
      refine (HG.out _ (HV.out.next hS1)).mono ?_
      rintro e w2 ⟨rfl, hb⟩
      have hS := hS1.trans hb
      have h2 : Since w2 (w2.alloc (.cells #[.bool xv, .string ⟨xl.toArray⟩] 26)) := (Since.refl _).alloc _
      replace K1 := Lib.hid ((K1.out.next hb).next h2)
      replace K2 := Lib.hid ((K2.out.next hb).next h2)
      have K3 : Cel (w2.alloc (.cells #[.bool xv, .string ⟨xl.toArray⟩] 26)) w2.heap.size #[.bool xv, .string ⟨xl.toArray⟩] 26 := heap_alloc_new w2 _
      replace hS := hS.trans h2
      clear k0 k1 hb h2
      obtain ⟨k0, k1⟩ := K1.out.two
      obtain ⟨z0, z1⟩ := K2.out.two
      obtain ⟨q0, q1⟩ := K3.two
      have hfr := K2.out.free
      have hlt := K2.out.lt
      have K2x : Cel (((w2.alloc (.cells #[.bool xv, .string ⟨xl.toArray⟩] 26)).setCell ⟨w.heap.size + 1, 0, none⟩ (.bool xv)).setCell ⟨w.heap.size + 1, 1, none⟩ (.string ⟨xl.toArray⟩)) (w.heap.size + 1) #[.bool xv, .string ⟨xl.toArray⟩] 26 := (K2.out.set (ds := #[.bool xv, .string ⟨#[]⟩]) rfl).set rfl
      obtain ⟨y0, y1⟩ := K2x.two
      go_wp2_with fail
      refine bodyPost_ret (v := .agg #[.bool xv, .string ⟨xl.toArray⟩]) (by simp [results, Tryz.results105, go_sem, y0, y1]) rfl ?_
      exact ⟨by rw [hT]; rfl, (hS.setCell (Nat.le_add_right _ _) _).setCell (Nat.le_add_right _ _) _⟩
theorem own_any (v : List UInt8) (tv : Bool) (tl : List UInt8) (R : Bool) (hR : (tv && (tl == v)) = R) (w : World) :
    Calls Tryz.prog 87 #[.agg #[.string ⟨v.toArray⟩, .bool tv, .string ⟨tl.toArray⟩]] w fun e w' => e = .returned (.bool R) ∧ Since w w' := by
  have K : Cel (w.alloc (.cells #[.string ⟨v.toArray⟩, .bool tv, .string ⟨tl.toArray⟩] 101)) w.heap.size #[.string ⟨v.toArray⟩, .bool tv, .string ⟨tl.toArray⟩] 101 := heap_alloc_new w _
  obtain ⟨k0, k1, k2⟩ := K.three
  have hS : Since w (w.alloc (.cells #[.string ⟨v.toArray⟩, .bool tv, .string ⟨tl.toArray⟩] 101)) := (Since.refl _).alloc _
  cases htv : tv
  · subst htv
    go_enter Tryz.func87, Tryz.ntmps87
    go_wp2_with fail
    go_ret
    exact ⟨by rw [← hR]; rfl, hS⟩
  · subst htv
    go_enter Tryz.func87, Tryz.ntmps87
    go_wp2_with fail
    go_ret
    exact ⟨by rw [← hR]; rfl, hS⟩
end Go.Proofs.YtdlnmkdbjgbimaaGreatDoor
