/- UnifyNames returns true. -/
import Derived.Test.YtohcehjpdmhjlaaDoorUniNm
import Derived.Test.YtohcehjpdmhjlaaDoorHeldA
namespace Go.Proofs.YtohcehjpdmhjlaaDoor
open Go.RowKit
attribute [local go_sem ↓] run_atomEq run_termEq'
attribute [local go_sem] eqA_self
theorem globalErrS : Tryd.prog.globalNamed "strconv.ErrSyntax" = some 1 := by kernel_rfl
theorem EnvS.next {w w' : World} (h : EnvS w) (hs : Since w w') : EnvS w' := by
  obtain ⟨tp, p, h0⟩ := h
  refine ⟨tp, p, var?_below hs globalErrS ?_ h0⟩
  rcases Nat.lt_or_ge 1 w.heap.size with h' | h'
  · exact h'
  · unfold World.var? at h0
    simp only [globalErrS, Option.bind_some, Array.getElem?_eq_none h'] at h0
    cases h0
theorem cell_new2 (w : World) (o : Obj) (cs : Array Value) (t : TypeId) (k : Nat) : ((w.alloc o).alloc (.cells cs t)).cell? ⟨w.heap.size + 1, k, none⟩ = cs[k]? := by
  have h := World.cell?_alloc_new (w.alloc o) cs t k
  rwa [World.size_alloc] at h
set_option maxHeartbeats 0 in
set_option maxRecDepth 100000 in
theorem uninames_any (w : World) (hE0 : EnvP w) (hF0 : EnvS w) :
    Calls Tryd.prog 5 #[] w fun e w' => e = .returned (.bool true) ∧ Since w w' := by
  have hE := Lib.hid hE0
  have hF := Lib.hid hF0
  have hS := Since.refl w
  clear hE0 hF0
  go_enter Tryd.func5, Tryd.ntmps5
  go_wp2_with fail
  refine (lives06_any _).mono ?_
  rintro e w1 ⟨rfl, hb⟩
  replace hS := hS.trans hb
  clear hb
  go_wp2_with fail
  refine (kA_A_B [97, 108, 105, 99, 101] [112] _ 0 2 _ (by first | exact (cell_new2 _ _ _ _ _).trans rfl | (rw [World.cell?_alloc_new]; rfl)) (by first | exact (cell_new2 _ _ _ _ _).trans rfl | (rw [World.cell?_alloc_new]; rfl))).mono ?_
  rintro e w2 ⟨rfl, hb⟩
  replace hS := (hS.alloc _).trans hb
  clear hb
  go_wp2_with fail
  refine (kA_B_C [97, 108, 105, 99, 101] [112] _ 0 2 _ (by first | exact (cell_new2 _ _ _ _ _).trans rfl | (rw [World.cell?_alloc_new]; rfl)) (by first | exact (cell_new2 _ _ _ _ _).trans rfl | (rw [World.cell?_alloc_new]; rfl))).mono ?_
  rintro e w3 ⟨rfl, hb⟩
  replace hS := (hS.alloc _).trans hb
  clear hb
  go_wp2_with fail
  refine (nm_un1 _).mono ?_
  rintro e w4 ⟨v1, rfl, hv1, hb⟩
  replace hS := hS.trans hb
  have H1 := Lib.hid hv1
  clear hv1 hb
  go_wp2_with fail
  refine (kA_X_X [97, 108, 105, 99, 101] [112] _ 0 2 _ (by first | exact (cell_new2 _ _ _ _ _).trans rfl | (rw [World.cell?_alloc_new]; rfl)) (by first | exact (cell_new2 _ _ _ _ _).trans rfl | (rw [World.cell?_alloc_new]; rfl))).mono ?_
  rintro e w5 ⟨rfl, hb⟩
  replace hS := (hS.alloc _).trans hb
  replace H1 := Lib.hid (H1.out.next (((Since.refl _).alloc _).trans hb))
  clear hb
  go_wp2_with fail
  refine (kA_a_b [97, 108, 105, 99, 101] [112] _ 0 2 _ (by first | exact (cell_new2 _ _ _ _ _).trans rfl | (rw [World.cell?_alloc_new]; rfl)) (by first | exact (cell_new2 _ _ _ _ _).trans rfl | (rw [World.cell?_alloc_new]; rfl))).mono ?_
  rintro e w6 ⟨rfl, hb⟩
  replace hS := (hS.alloc _).trans hb
  replace H1 := Lib.hid (H1.out.next (((Since.refl _).alloc _).trans hb))
  clear hb
  go_wp2_with fail
  refine (nm_un2 _).mono ?_
  rintro e w7 ⟨rfl, hb⟩
  replace hS := hS.trans hb
  replace H1 := Lib.hid (H1.out.next (hb))
  clear hb
  go_wp2_with fail
  refine (kA_X [97, 108, 105, 99, 101] [112] _ 0 1 _ (by first | exact (cell_new2 _ _ _ _ _).trans rfl | (rw [World.cell?_alloc_new]; rfl))).mono ?_
  rintro e w8 ⟨rfl, hb⟩
  replace hS := (hS.alloc _).trans hb
  replace H1 := Lib.hid (H1.out.next (((Since.refl _).alloc _).trans hb))
  clear hb
  go_wp2_with fail
  refine (kA_X [97, 108, 105, 99, 101] [113] _ 0 1 _ (by first | exact (cell_new2 _ _ _ _ _).trans rfl | (rw [World.cell?_alloc_new]; rfl))).mono ?_
  rintro e w9 ⟨rfl, hb⟩
  replace hS := (hS.alloc _).trans hb
  replace H1 := Lib.hid (H1.out.next (((Since.refl _).alloc _).trans hb))
  clear hb
  go_wp2_with fail
  refine (nm_un3 _).mono ?_
  rintro e w10 ⟨rfl, hb⟩
  replace hS := hS.trans hb
  replace H1 := Lib.hid (H1.out.next (hb))
  clear hb
  go_wp2_with fail
  refine (kA_X_b [97, 108, 105, 99, 101] [112] _ 0 2 _ (by first | exact (cell_new2 _ _ _ _ _).trans rfl | (rw [World.cell?_alloc_new]; rfl)) (by first | exact (cell_new2 _ _ _ _ _).trans rfl | (rw [World.cell?_alloc_new]; rfl))).mono ?_
  rintro e w11 ⟨rfl, hb⟩
  replace hS := (hS.alloc _).trans hb
  replace H1 := Lib.hid (H1.out.next (((Since.refl _).alloc _).trans hb))
  clear hb
  go_wp2_with fail
  refine (kA_a_Y [97, 108, 105, 99, 101] [112] _ 0 2 _ (by first | exact (cell_new2 _ _ _ _ _).trans rfl | (rw [World.cell?_alloc_new]; rfl)) (by first | exact (cell_new2 _ _ _ _ _).trans rfl | (rw [World.cell?_alloc_new]; rfl))).mono ?_
  rintro e w12 ⟨rfl, hb⟩
  replace hS := (hS.alloc _).trans hb
  replace H1 := Lib.hid (H1.out.next (((Since.refl _).alloc _).trans hb))
  clear hb
  go_wp2_with fail
  refine (nm_meet _).mono ?_
  rintro e w13 ⟨rfl, hb⟩
  replace hS := hS.trans hb
  replace H1 := Lib.hid (H1.out.next (hb))
  clear hb
  have M : Hid (Cel (w13.alloc (.cells #[.string ⟨#[97, 108, 105, 99, 101]⟩, .string ⟨#[112]⟩, .int .i64 2, .bool false, .string ⟨#[97]⟩, .bool false, .string ⟨#[98]⟩, .bool false, .string ⟨#[]⟩, .bool false, .string ⟨#[]⟩] 26)) w13.heap.size (atmC (([97, 108, 105, 99, 101], [112], 2, (false, [97]), (false, [98]), (false, []), (false, [])) : Atm)) 26) := heap_alloc_new w13 _
  replace H1 := Lib.hid (H1.out.next ((Since.refl _).alloc (.cells #[.string ⟨#[97, 108, 105, 99, 101]⟩, .string ⟨#[112]⟩, .int .i64 2, .bool false, .string ⟨#[97]⟩, .bool false, .string ⟨#[98]⟩, .bool false, .string ⟨#[]⟩, .bool false, .string ⟨#[]⟩] 26)))
  replace hS := hS.alloc (.cells #[.string ⟨#[97, 108, 105, 99, 101]⟩, .string ⟨#[112]⟩, .int .i64 2, .bool false, .string ⟨#[97]⟩, .bool false, .string ⟨#[98]⟩, .bool false, .string ⟨#[]⟩, .bool false, .string ⟨#[]⟩] 26)
  go_wp2_with fail
  refine (kA_X_b_Y [97, 108, 105, 99, 101] [112] _ 0 3 _ (by first | exact (cell_new2 _ _ _ _ _).trans rfl | (rw [World.cell?_alloc_new]; rfl)) (by first | exact (cell_new2 _ _ _ _ _).trans rfl | (rw [World.cell?_alloc_new]; rfl)) (by first | exact (cell_new2 _ _ _ _ _).trans rfl | (rw [World.cell?_alloc_new]; rfl))).mono ?_
  rintro e w14 ⟨rfl, hb⟩
  replace hS := (hS.alloc _).trans hb
  replace H1 := Lib.hid (H1.out.next (((Since.refl _).alloc _).trans hb))
  replace M := Lib.hid (M.out.next (((Since.refl _).alloc _).trans hb))
  clear hb
  go_wp2_with fail
  refine (nm_ren _ (hE.out.next hS)).mono ?_
  rintro e w15 ⟨rfl, hb⟩
  replace hS := hS.trans hb
  replace H1 := Lib.hid (H1.out.next (hb))
  replace M := Lib.hid (M.out.next (hb))
  clear hb
  have R : Hid (Cel (w15.alloc (.cells #[.string ⟨#[97, 108, 105, 99, 101]⟩, .string ⟨#[112]⟩, .int .i64 3, .bool true, .string ⟨#[88, 35, 49, 50]⟩, .bool false, .string ⟨#[98]⟩, .bool true, .string ⟨#[89, 35, 49, 50]⟩, .bool false, .string ⟨#[]⟩] 26)) w15.heap.size (atmC (([97, 108, 105, 99, 101], [112], 3, (true, [88, 35, 49, 50]), (false, [98]), (true, [89, 35, 49, 50]), (false, [])) : Atm)) 26) := heap_alloc_new w15 _
  replace H1 := Lib.hid (H1.out.next ((Since.refl _).alloc (.cells #[.string ⟨#[97, 108, 105, 99, 101]⟩, .string ⟨#[112]⟩, .int .i64 3, .bool true, .string ⟨#[88, 35, 49, 50]⟩, .bool false, .string ⟨#[98]⟩, .bool true, .string ⟨#[89, 35, 49, 50]⟩, .bool false, .string ⟨#[]⟩] 26)))
  replace M := Lib.hid (M.out.next ((Since.refl _).alloc (.cells #[.string ⟨#[97, 108, 105, 99, 101]⟩, .string ⟨#[112]⟩, .int .i64 3, .bool true, .string ⟨#[88, 35, 49, 50]⟩, .bool false, .string ⟨#[98]⟩, .bool true, .string ⟨#[89, 35, 49, 50]⟩, .bool false, .string ⟨#[]⟩] 26)))
  replace hS := hS.alloc (.cells #[.string ⟨#[97, 108, 105, 99, 101]⟩, .string ⟨#[112]⟩, .int .i64 3, .bool true, .string ⟨#[88, 35, 49, 50]⟩, .bool false, .string ⟨#[98]⟩, .bool true, .string ⟨#[89, 35, 49, 50]⟩, .bool false, .string ⟨#[]⟩] 26)
  go_wp2_with fail
  refine (nm_m1 _ (hE.out.next hS)).mono ?_
  rintro e w16 ⟨rfl, hb⟩
  replace hS := hS.trans hb
  replace H1 := Lib.hid (H1.out.next (hb))
  replace M := Lib.hid (M.out.next (hb))
  replace R := Lib.hid (R.out.next (hb))
  clear hb
  go_wp2_with fail
  refine (marked_zero _).mono ?_
  rintro e w17 ⟨rfl, hb⟩
  replace hS := hS.trans hb
  replace H1 := Lib.hid (H1.out.next (hb))
  replace M := Lib.hid (M.out.next (hb))
  replace R := Lib.hid (R.out.next (hb))
  clear hb
  go_wp2_with fail
  refine (marked_first _).mono ?_
  rintro e w18 ⟨rfl, hb⟩
  replace hS := hS.trans hb
  replace H1 := Lib.hid (H1.out.next (hb))
  replace M := Lib.hid (M.out.next (hb))
  replace R := Lib.hid (R.out.next (hb))
  clear hb
  go_wp2_with fail
  refine (marked_bare _ (EnvS.next hF.out hS)).mono ?_
  rintro e w19 ⟨rfl, hb⟩
  replace hS := hS.trans hb
  replace H1 := Lib.hid (H1.out.next (hb))
  replace M := Lib.hid (M.out.next (hb))
  replace R := Lib.hid (R.out.next (hb))
  clear hb
  go_wp2_with fail
  refine (nm_m5 _ (hE.out.next hS)).mono ?_
  rintro e w20 ⟨rfl, hb⟩
  replace hS := hS.trans hb
  replace H1 := Lib.hid (H1.out.next (hb))
  replace M := Lib.hid (M.out.next (hb))
  replace R := Lib.hid (R.out.next (hb))
  clear hb
  go_wp2_with fail
  have HM := Cel.box (a := (([97, 108, 105, 99, 101], [112], 2, (false, [97]), (false, [98]), (false, []), (false, [])) : Atm)) M.out
  have HR := Cel.box (a := (([97, 108, 105, 99, 101], [112], 3, (true, [88, 35, 49, 50]), (false, [98]), (true, [89, 35, 49, 50]), (false, [])) : Atm)) R.out
  have hrow := H1.out.1
  clear M R H1 hE hF
  simp only [List.append_eq, List.cons_append, List.nil_append]
  have hs0 : Since w20 w20.drew := (Since.refl _).drew
  refine hx_begin (S := fun W => Since w20 W) (by kernel_rfl) hs0 (by kernel_rfl) (fun _ _ _ _ _ h => h) (fun hns hQ => ?_)
  refine hx_take (i := 0) (oi := _) (v := .bool true) rfl rfl hns (by kernel_rfl) (by kernel_rfl) hQ (by kernel_rfl) (fun _ _ => by kernel_rfl) hs0 ?_
  refine hx_take (i := 1) (oi := _) (v := .bool true) rfl rfl hns (by kernel_rfl) (by kernel_rfl) hQ (by kernel_rfl) (fun _ _ => by kernel_rfl) hs0 ?_
  refine hx_take (i := 2) (oi := _) (v := v1) rfl rfl hns (by kernel_rfl) (by kernel_rfl) hQ (by kernel_rfl) (fun _ _ => by kernel_rfl) hs0 ?_
  refine hx_call (i := 3) (oi := _) 20 #[.string ⟨#[65]⟩] rfl rfl (by kernel_rfl) (by kernel_rfl) (by kernel_rfl) (kV_since [65] _) ?_
  rintro e wz1 ⟨rfl, hb⟩
  have hs1 : Since w20 wz1 := hs0.trans hb
  clear hb
  refine ⟨_, rfl, hs1, ?_⟩
  refine hx_take (i := 4) (oi := _) (v := .agg #[.string ⟨#[66]⟩, .bool true, .string ⟨#[65]⟩]) rfl rfl hns (by kernel_rfl) (by kernel_rfl) hQ (by kernel_rfl) (fun W _ => bd_bnd _ _ _ rfl _ ⟨#[66]⟩ ⟨#[65]⟩ true (by kernel_rfl) (by kernel_rfl) W) hs1 ?_
  refine hx_call (i := 5) (oi := _) 20 #[.string ⟨#[65]⟩] rfl rfl (by kernel_rfl) (by kernel_rfl) (by kernel_rfl) (kV_since [65] _) ?_
  rintro e wz2 ⟨rfl, hb⟩
  have hs2 : Since w20 wz2 := hs1.trans hb
  clear hb
  refine ⟨_, rfl, hs2, ?_⟩
  refine hx_take (i := 6) (oi := _) (v := .agg #[.string ⟨#[67]⟩, .bool true, .string ⟨#[65]⟩]) rfl rfl hns (by kernel_rfl) (by kernel_rfl) hQ (by kernel_rfl) (fun W _ => bd_bnd _ _ _ rfl _ ⟨#[67]⟩ ⟨#[65]⟩ true (by kernel_rfl) (by kernel_rfl) W) hs2 ?_
  have hs3 : Since w20 (wz2.alloc (.cells #[.string ⟨#[66]⟩, .bool true, .string ⟨#[65]⟩, .string ⟨#[67]⟩, .bool true, .string ⟨#[65]⟩] 49)) := hs2.alloc _
  refine hx_make (i := 7) (oi := _) (.slice (some ⟨wz2.heap.size, 0, none⟩) 2 2) (wz2.alloc (.cells #[.string ⟨#[66]⟩, .bool true, .string ⟨#[65]⟩, .string ⟨#[67]⟩, .bool true, .string ⟨#[65]⟩] 49)) rfl rfl (by kernel_rfl) (by kernel_rfl) (mk_bnd2 _ _ _ rfl _ _ _ _ _ _ _ (by kernel_rfl) (by kernel_rfl) _) hs3 ?_
  refine hx_call (i := 8) (oi := _) 19 #[v1, .slice (some ⟨wz2.heap.size, 0, none⟩) 2 2] rfl rfl (by kernel_rfl) (by kernel_rfl) (by kernel_rfl) (nm_two2 _ _ (hrow.next hs3)) ?_
  rintro e wz3 ⟨rfl, hb⟩
  have hs4 : Since w20 wz3 := hs3.trans hb
  clear hb
  refine ⟨_, rfl, hs4, ?_⟩
  refine hx_take (i := 9) (oi := _) (v := .bool true) rfl rfl hns (by kernel_rfl) (by kernel_rfl) hQ (by kernel_rfl) (fun _ _ => by kernel_rfl) hs4 ?_
  refine hx_take (i := 10) (oi := _) (v := .bool true) rfl rfl hns (by kernel_rfl) (by kernel_rfl) hQ (by kernel_rfl) (fun _ _ => by kernel_rfl) hs4 ?_
  refine hx_take (i := 11) (oi := _) (v := .bool false) rfl rfl hns (by kernel_rfl) (by kernel_rfl) hQ (by kernel_rfl) (fun _ _ => by kernel_rfl) hs4 ?_
  refine hx_take (i := 12) (oi := _) (v := .bool true) rfl rfl hns (by kernel_rfl) (by kernel_rfl) hQ (by kernel_rfl) (fun _ _ => by kernel_rfl) hs4 ?_
  refine hx_take (i := 13) (oi := _) (v := .bool true) rfl rfl hns (by kernel_rfl) (by kernel_rfl) hQ (by kernel_rfl) (fun _ _ => by kernel_rfl) hs4 ?_
  refine hx_take (i := 14) (oi := _) (v := .bool true) rfl rfl hns (by kernel_rfl) (by kernel_rfl) hQ (by kernel_rfl) (fun _ _ => by kernel_rfl) hs4 ?_
  refine hx_take (i := 15) (oi := _) (v := .bool false) rfl rfl hns (by kernel_rfl) (by kernel_rfl) hQ (by kernel_rfl) (fun _ _ => by kernel_rfl) hs4 ?_
  refine hx_take (i := 16) (oi := _) (v := .bool true) rfl rfl hns (by kernel_rfl) (by kernel_rfl) hQ (by kernel_rfl) (fun _ _ => by kernel_rfl) hs4 ?_
  refine hx_take (i := 17) (oi := _) (v := .bool true) rfl rfl hns (by kernel_rfl) (by kernel_rfl) hQ (by kernel_rfl) (fun _ _ => by kernel_rfl) hs4 ?_
  refine hx_take (i := 18) (oi := _) (v := .bool true) rfl rfl hns (by kernel_rfl) (by kernel_rfl) hQ (by kernel_rfl) (fun _ _ => by kernel_rfl) hs4 ?_
  refine hx_take (i := 19) (oi := _) (v := .bool true) rfl rfl hns (by kernel_rfl) (by kernel_rfl) hQ (by kernel_rfl) (fun _ _ => by kernel_rfl) hs4 ?_
  refine hx_take (i := 20) (oi := _) (v := .bool true) rfl rfl hns (by kernel_rfl) (by kernel_rfl) hQ (by kernel_rfl) (fun _ _ => by kernel_rfl) hs4 ?_
  refine hx_take (i := 21) (oi := _) (v := .bool true) rfl rfl hns (by kernel_rfl) (by kernel_rfl) hQ (by kernel_rfl) (fun _ _ => by kernel_rfl) hs4 ?_
  refine hx_take (i := 22) (oi := _) (v := .agg #[.string ⟨#[97, 108, 105, 99, 101]⟩, .string ⟨#[112]⟩, .int .i64 2, .bool false, .string ⟨#[97]⟩, .bool false, .string ⟨#[98]⟩, .bool false, .string ⟨#[]⟩, .bool false, .string ⟨#[]⟩]) rfl rfl hns (by kernel_rfl) (by kernel_rfl) hQ (by kernel_rfl) (fun W hW => ld_atom _ _ rfl _ _ (by kernel_rfl) [97, 108, 105, 99, 101] [112] 2 false false false false [97] [98] [] [] W (HM.next hW)) hs4 ?_
  have hs5 : Since w20 (wz3.alloc (.cells #[.string ⟨#[97]⟩, .string ⟨#[98]⟩] 9)) := hs4.alloc _
  refine hx_make (i := 23) (oi := _) (.slice (some ⟨wz3.heap.size, 0, none⟩) 2 2) (wz3.alloc (.cells #[.string ⟨#[97]⟩, .string ⟨#[98]⟩] 9)) rfl rfl (by kernel_rfl) (by kernel_rfl) (mk_str2 _ _ _ rfl _ _ _ (by kernel_rfl) (by kernel_rfl) _) hs5 ?_
  refine hx_call (i := 24) (oi := _) 18 #[.string ⟨#[97, 108, 105, 99, 101]⟩, .string ⟨#[112]⟩, .slice (some ⟨wz3.heap.size, 0, none⟩) 2 2] rfl rfl (by kernel_rfl) (by kernel_rfl) (by kernel_rfl) (kA_a_b [97, 108, 105, 99, 101] [112] _ 0 2 _ ((World.cell?_alloc_new _ _ _ _).trans rfl) ((World.cell?_alloc_new _ _ _ _).trans rfl)) ?_
  rintro e wz4 ⟨rfl, hb⟩
  have hs6 : Since w20 wz4 := hs5.trans hb
  clear hb
  refine ⟨_, rfl, hs6, ?_⟩
  refine hx_take (i := 25) (oi := _) (v := .bool true) rfl rfl hns (by kernel_rfl) (by kernel_rfl) hQ (by kernel_rfl) (fun W _ => eq_atom _ _ _ rfl _ [97, 108, 105, 99, 101] [112] 2 false false false false [97] [98] [] [] (by kernel_rfl) (by kernel_rfl) W) hs6 ?_
  refine hx_take (i := 26) (oi := _) (v := .bool true) rfl rfl hns (by kernel_rfl) (by kernel_rfl) hQ (by kernel_rfl) (fun _ _ => by kernel_rfl) hs6 ?_
  refine hx_take (i := 27) (oi := _) (v := .bool true) rfl rfl hns (by kernel_rfl) (by kernel_rfl) hQ (by kernel_rfl) (fun _ _ => by kernel_rfl) hs6 ?_
  refine hx_take (i := 28) (oi := _) (v := .agg #[.string ⟨#[97, 108, 105, 99, 101]⟩, .string ⟨#[112]⟩, .int .i64 3, .bool true, .string ⟨#[88, 35, 49, 50]⟩, .bool false, .string ⟨#[98]⟩, .bool true, .string ⟨#[89, 35, 49, 50]⟩, .bool false, .string ⟨#[]⟩]) rfl rfl hns (by kernel_rfl) (by kernel_rfl) hQ (by kernel_rfl) (fun W hW => ld_atom _ _ rfl _ _ (by kernel_rfl) [97, 108, 105, 99, 101] [112] 3 true false true false [88, 35, 49, 50] [98] [89, 35, 49, 50] [] W (HR.next hW)) hs6 ?_
  have hs7 : Since w20 (wz4.alloc (.cells #[.string ⟨#[88, 35, 49, 50]⟩, .string ⟨#[98]⟩, .string ⟨#[89, 35, 49, 50]⟩] 9)) := hs6.alloc _
  refine hx_make (i := 29) (oi := _) (.slice (some ⟨wz4.heap.size, 0, none⟩) 3 3) (wz4.alloc (.cells #[.string ⟨#[88, 35, 49, 50]⟩, .string ⟨#[98]⟩, .string ⟨#[89, 35, 49, 50]⟩] 9)) rfl rfl (by kernel_rfl) (by kernel_rfl) (mk_str3 _ _ _ _ rfl _ _ _ _ (by kernel_rfl) (by kernel_rfl) (by kernel_rfl) _) hs7 ?_
  refine hx_call (i := 30) (oi := _) 18 #[.string ⟨#[97, 108, 105, 99, 101]⟩, .string ⟨#[112]⟩, .slice (some ⟨wz4.heap.size, 0, none⟩) 3 3] rfl rfl (by kernel_rfl) (by kernel_rfl) (by kernel_rfl) (kA_Xz3512_b_Yz3512 [97, 108, 105, 99, 101] [112] _ 0 3 _ ((World.cell?_alloc_new _ _ _ _).trans rfl) ((World.cell?_alloc_new _ _ _ _).trans rfl) ((World.cell?_alloc_new _ _ _ _).trans rfl)) ?_
  rintro e wz5 ⟨rfl, hb⟩
  have hs8 : Since w20 wz5 := hs7.trans hb
  clear hb
  refine ⟨_, rfl, hs8, ?_⟩
  refine hx_take (i := 31) (oi := _) (v := .bool true) rfl rfl hns (by kernel_rfl) (by kernel_rfl) hQ (by kernel_rfl) (fun W _ => eq_atom _ _ _ rfl _ [97, 108, 105, 99, 101] [112] 3 true false true false [88, 35, 49, 50] [98] [89, 35, 49, 50] [] (by kernel_rfl) (by kernel_rfl) W) hs8 ?_
  refine hx_take (i := 32) (oi := _) (v := .bool true) rfl rfl hns (by kernel_rfl) (by kernel_rfl) hQ (by kernel_rfl) (fun _ _ => by kernel_rfl) hs8 ?_
  refine hx_take (i := 33) (oi := _) (v := .bool true) rfl rfl hns (by kernel_rfl) (by kernel_rfl) hQ (by kernel_rfl) (fun _ _ => by kernel_rfl) hs8 ?_
  refine hx_take (i := 34) (oi := _) (v := .bool true) rfl rfl hns (by kernel_rfl) (by kernel_rfl) hQ (by kernel_rfl) (fun _ _ => by kernel_rfl) hs8 ?_
  refine hx_take (i := 35) (oi := _) (v := .bool true) rfl rfl hns (by kernel_rfl) (by kernel_rfl) hQ (by kernel_rfl) (fun _ _ => by kernel_rfl) hs8 ?_
  refine hx_take (i := 36) (oi := _) (v := .bool true) rfl rfl hns (by kernel_rfl) (by kernel_rfl) hQ (by kernel_rfl) (fun _ _ => by kernel_rfl) hs8 ?_
  refine hx_take (i := 37) (oi := _) (v := .string ⟨#[88]⟩) rfl rfl hns (by kernel_rfl) (by kernel_rfl) hQ (by kernel_rfl) (fun _ _ => by kernel_rfl) hs8 ?_
  refine hx_take (i := 38) (oi := _) (v := .bool true) rfl rfl hns (by kernel_rfl) (by kernel_rfl) hQ (by kernel_rfl) (fun W _ => eq_str _ _ _ rfl _ ⟨#[88]⟩ (by kernel_rfl) (by kernel_rfl) W) hs8 ?_
  refine hx_take (i := 39) (oi := _) (v := .bool true) rfl rfl hns (by kernel_rfl) (by kernel_rfl) hQ (by kernel_rfl) (fun _ _ => by kernel_rfl) hs8 ?_
  refine hx_take (i := 40) (oi := _) (v := .bool true) rfl rfl hns (by kernel_rfl) (by kernel_rfl) hQ (by kernel_rfl) (fun _ _ => by kernel_rfl) hs8 ?_
  refine hx_take (i := 41) (oi := _) (v := .int .i64 12) rfl rfl hns (by kernel_rfl) (by kernel_rfl) hQ (by kernel_rfl) (fun _ _ => by kernel_rfl) hs8 ?_
  refine hx_take (i := 42) (oi := _) (v := .bool true) rfl rfl hns (by kernel_rfl) (by kernel_rfl) hQ (by kernel_rfl) (fun W _ => eq_int _ _ _ rfl _ 12 (by kernel_rfl) (by kernel_rfl) W) hs8 ?_
  refine hx_take (i := 43) (oi := _) (v := .bool true) rfl rfl hns (by kernel_rfl) (by kernel_rfl) hQ (by kernel_rfl) (fun _ _ => by kernel_rfl) hs8 ?_
  refine hx_take (i := 44) (oi := _) (v := .bool true) rfl rfl hns (by kernel_rfl) (by kernel_rfl) hQ (by kernel_rfl) (fun _ _ => by kernel_rfl) hs8 ?_
  refine hx_take (i := 45) (oi := _) (v := .bool false) rfl rfl hns (by kernel_rfl) (by kernel_rfl) hQ (by kernel_rfl) (fun _ _ => by kernel_rfl) hs8 ?_
  refine hx_take (i := 46) (oi := _) (v := .bool true) rfl rfl hns (by kernel_rfl) (by kernel_rfl) hQ (by kernel_rfl) (fun _ _ => by kernel_rfl) hs8 ?_
  refine hx_take (i := 47) (oi := _) (v := .bool true) rfl rfl hns (by kernel_rfl) (by kernel_rfl) hQ (by kernel_rfl) (fun _ _ => by kernel_rfl) hs8 ?_
  refine hx_take (i := 48) (oi := _) (v := .bool true) rfl rfl hns (by kernel_rfl) (by kernel_rfl) hQ (by kernel_rfl) (fun _ _ => by kernel_rfl) hs8 ?_
  refine hx_take (i := 49) (oi := _) (v := .bool false) rfl rfl hns (by kernel_rfl) (by kernel_rfl) hQ (by kernel_rfl) (fun _ _ => by kernel_rfl) hs8 ?_
  refine hx_take (i := 50) (oi := _) (v := .bool true) rfl rfl hns (by kernel_rfl) (by kernel_rfl) hQ (by kernel_rfl) (fun _ _ => by kernel_rfl) hs8 ?_
  refine hx_take (i := 51) (oi := _) (v := .bool true) rfl rfl hns (by kernel_rfl) (by kernel_rfl) hQ (by kernel_rfl) (fun _ _ => by kernel_rfl) hs8 ?_
  refine hx_take (i := 52) (oi := _) (v := .bool true) rfl rfl hns (by kernel_rfl) (by kernel_rfl) hQ (by kernel_rfl) (fun _ _ => by kernel_rfl) hs8 ?_
  refine hx_take (i := 53) (oi := _) (v := .bool false) rfl rfl hns (by kernel_rfl) (by kernel_rfl) hQ (by kernel_rfl) (fun _ _ => by kernel_rfl) hs8 ?_
  refine hx_take (i := 54) (oi := _) (v := .bool true) rfl rfl hns (by kernel_rfl) (by kernel_rfl) hQ (by kernel_rfl) (fun _ _ => by kernel_rfl) hs8 ?_
  refine hx_take (i := 55) (oi := _) (v := .bool true) rfl rfl hns (by kernel_rfl) (by kernel_rfl) hQ (by kernel_rfl) (fun _ _ => by kernel_rfl) hs8 ?_
  refine hx_take (i := 56) (oi := _) (v := .bool true) rfl rfl hns (by kernel_rfl) (by kernel_rfl) hQ (by kernel_rfl) (fun _ _ => by kernel_rfl) hs8 ?_
  refine hx_take (i := 57) (oi := _) (v := .bool true) rfl rfl hns (by kernel_rfl) (by kernel_rfl) hQ (by kernel_rfl) (fun _ _ => by kernel_rfl) hs8 ?_
  refine hx_take (i := 58) (oi := _) (v := .bool true) rfl rfl hns (by kernel_rfl) (by kernel_rfl) hQ (by kernel_rfl) (fun _ _ => by kernel_rfl) hs8 ?_
  refine hx_take (i := 59) (oi := _) (v := .bool true) rfl rfl hns (by kernel_rfl) (by kernel_rfl) hQ (by kernel_rfl) (fun _ _ => by kernel_rfl) hs8 ?_
  refine hx_take (i := 60) (oi := _) (v := .string ⟨#[88, 35, 49]⟩) rfl rfl hns (by kernel_rfl) (by kernel_rfl) hQ (by kernel_rfl) (fun _ _ => by kernel_rfl) hs8 ?_
  refine hx_take (i := 61) (oi := _) (v := .bool true) rfl rfl hns (by kernel_rfl) (by kernel_rfl) hQ (by kernel_rfl) (fun W _ => eq_str _ _ _ rfl _ ⟨#[88, 35, 49]⟩ (by kernel_rfl) (by kernel_rfl) W) hs8 ?_
  refine hx_take (i := 62) (oi := _) (v := .bool true) rfl rfl hns (by kernel_rfl) (by kernel_rfl) hQ (by kernel_rfl) (fun _ _ => by kernel_rfl) hs8 ?_
  refine hx_take (i := 63) (oi := _) (v := .bool true) rfl rfl hns (by kernel_rfl) (by kernel_rfl) hQ (by kernel_rfl) (fun _ _ => by kernel_rfl) hs8 ?_
  refine hx_take (i := 64) (oi := _) (v := .int .i64 0) rfl rfl hns (by kernel_rfl) (by kernel_rfl) hQ (by kernel_rfl) (fun _ _ => by kernel_rfl) hs8 ?_
  refine hx_take (i := 65) (oi := _) (v := .bool true) rfl rfl hns (by kernel_rfl) (by kernel_rfl) hQ (by kernel_rfl) (fun W _ => eq_int _ _ _ rfl _ 0 (by kernel_rfl) (by kernel_rfl) W) hs8 ?_
  refine hx_take (i := 66) (oi := _) (v := .bool true) rfl rfl hns (by kernel_rfl) (by kernel_rfl) hQ (by kernel_rfl) (fun _ _ => by kernel_rfl) hs8 ?_
  refine hx_take (i := 67) (oi := _) (v := .bool true) rfl rfl hns (by kernel_rfl) (by kernel_rfl) hQ (by kernel_rfl) (fun _ _ => by kernel_rfl) hs8 ?_
  refine hx_take (i := 68) (oi := _) (v := .agg #[.string ⟨#[97, 108, 105, 99, 101]⟩, .string ⟨#[112]⟩, .int .i64 3, .bool true, .string ⟨#[88, 35, 49, 50]⟩, .bool false, .string ⟨#[98]⟩, .bool true, .string ⟨#[89, 35, 49, 50]⟩, .bool false, .string ⟨#[]⟩]) rfl rfl hns (by kernel_rfl) (by kernel_rfl) hQ (by kernel_rfl) (fun W hW => ld_atom _ _ rfl _ _ (by kernel_rfl) [97, 108, 105, 99, 101] [112] 3 true false true false [88, 35, 49, 50] [98] [89, 35, 49, 50] [] W (HR.next hW)) hs8 ?_
  refine hx_take (i := 70) (oi := _) (v := .agg #[.string ⟨#[97, 108, 105, 99, 101]⟩, .string ⟨#[112]⟩, .int .i64 3, .bool true, .string ⟨#[88, 35, 49, 50]⟩, .bool false, .string ⟨#[98]⟩, .bool true, .string ⟨#[89, 35, 49, 50]⟩, .bool false, .string ⟨#[]⟩]) rfl rfl hns (by kernel_rfl) (by kernel_rfl) hQ (by kernel_rfl) (fun W hW => ld_atom _ _ rfl _ _ (by kernel_rfl) [97, 108, 105, 99, 101] [112] 3 true false true false [88, 35, 49, 50] [98] [89, 35, 49, 50] [] W (HR.next hW)) hs8 ?_
  refine hx_call (i := 69) (oi := _) 10 #[.agg #[.string ⟨#[97, 108, 105, 99, 101]⟩, .string ⟨#[112]⟩, .int .i64 3, .bool true, .string ⟨#[88, 35, 49, 50]⟩, .bool false, .string ⟨#[98]⟩, .bool true, .string ⟨#[89, 35, 49, 50]⟩, .bool false, .string ⟨#[]⟩], .int .i64 (-1)] rfl rfl (by kernel_rfl) (by kernel_rfl) (by kernel_rfl) (nm_neg _) ?_
  rintro e wz6 ⟨rfl, hb⟩
  have hs9 : Since w20 wz6 := hs8.trans hb
  clear hb
  refine ⟨_, rfl, hs9, ?_⟩
  refine hx_take (i := 71) (oi := _) (v := .bool true) rfl rfl hns (by kernel_rfl) (by kernel_rfl) hQ (by kernel_rfl) (fun W _ => eq_atom _ _ _ rfl _ [97, 108, 105, 99, 101] [112] 3 true false true false [88, 35, 49, 50] [98] [89, 35, 49, 50] [] (by kernel_rfl) (by kernel_rfl) W) hs9 ?_
  refine hx_take (i := 72) (oi := _) (v := .bool true) rfl rfl hns (by kernel_rfl) (by kernel_rfl) hQ (by kernel_rfl) (fun _ _ => by kernel_rfl) hs9 ?_
  refine hx_take (i := 73) (oi := _) (v := .bool true) rfl rfl hns (by kernel_rfl) (by kernel_rfl) hQ (by kernel_rfl) (fun _ _ => by kernel_rfl) hs9 ?_
  refine hx_done 0 (.bool true) (by kernel_rfl) (by kernel_rfl) (fun L hL => ?_)
  clear hns hQ
  go_wp2_with fail
  go_ret
  refine ⟨?_, hS.trans hs9⟩
  show Ending.returned (L.toArray.getD 0 undef) = _
  rw [hL]
end Go.Proofs.YtohcehjpdmhjlaaDoor
