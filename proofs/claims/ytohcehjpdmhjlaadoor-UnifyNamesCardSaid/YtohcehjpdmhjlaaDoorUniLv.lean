/- The chapter's examples of layer 6 have the results that it states (lives). -/
import Derived.Test.YtohcehjpdmhjlaaDoorUniM
namespace Go.Proofs.YtohcehjpdmhjlaaDoor
open Go.RowKit

set_option maxHeartbeats 1000000 in
theorem lv_un1 (w : World) : Calls Tryd.prog 16 #[.agg #[.string ⟨#[97, 108, 105, 99, 101]⟩, .string ⟨#[112]⟩, .int .i64 2, .bool true, .string ⟨#[88]⟩, .bool false, .string ⟨#[98]⟩, .bool false, .string ⟨#[]⟩, .bool false, .string ⟨#[]⟩], .agg #[.string ⟨#[97, 108, 105, 99, 101]⟩, .string ⟨#[112]⟩, .int .i64 2, .bool false, .string ⟨#[97]⟩, .bool true, .string ⟨#[89]⟩, .bool false, .string ⟨#[]⟩, .bool false, .string ⟨#[]⟩]] w fun e w' => ∃ v, e = .returned (.tuple #[v, .bool true]) ∧ RowS w' v [([88], (false, [97])), ([89], (false, [98]))] ∧ Since w w' :=
  unify_some [97, 108, 105, 99, 101] [112] 2 true false false false [88] [98] [] [] [97, 108, 105, 99, 101] [112] 2 false true false false [97] [89] [] [] lv_c1 lv_c2 lv_u1 w
set_option maxHeartbeats 1000000 in
theorem lv_un2 (w : World) : Calls Tryd.prog 16 #[.agg #[.string ⟨#[97, 108, 105, 99, 101]⟩, .string ⟨#[112]⟩, .int .i64 2, .bool true, .string ⟨#[88]⟩, .bool true, .string ⟨#[89]⟩, .bool false, .string ⟨#[]⟩, .bool false, .string ⟨#[]⟩], .agg #[.string ⟨#[97, 108, 105, 99, 101]⟩, .string ⟨#[112]⟩, .int .i64 2, .bool true, .string ⟨#[89]⟩, .bool false, .string ⟨#[97]⟩, .bool false, .string ⟨#[]⟩, .bool false, .string ⟨#[]⟩]] w fun e w' => ∃ v, e = .returned (.tuple #[v, .bool true]) ∧ RowS w' v [([88], (false, [97])), ([89], (false, [97]))] ∧ Since w w' :=
  unify_some [97, 108, 105, 99, 101] [112] 2 true true false false [88] [89] [] [] [97, 108, 105, 99, 101] [112] 2 true false false false [89] [97] [] [] lv_c3 lv_c4 lv_u2 w
theorem lv_two1 (v : Value) (w w0 : World) (hv : RowOf 3 bndC w0 v [([88], (false, [97])), ([89], (false, [98]))]) (hs : Since w0 w) :
    Calls Tryd.prog 19 #[v, .slice (some ⟨w.heap.size, 0, none⟩) 2 2] (w.alloc (.cells #[.string ⟨#[88]⟩, .bool false, .string ⟨#[97]⟩, .string ⟨#[89]⟩, .bool false, .string ⟨#[98]⟩] 49)) fun e w' => e = .returned (.bool true) ∧ Since w w' := by
  have h := same_bnd v (.slice (some ⟨w.heap.size, 0, none⟩) 2 2) [([88], (false, [97])), ([89], (false, [98]))] (w.alloc (.cells #[.string ⟨#[88]⟩, .bool false, .string ⟨#[97]⟩, .string ⟨#[89]⟩, .bool false, .string ⟨#[98]⟩] 49)) (hv.next (hs.alloc _)) (bnd_two w ([88], (false, [97])) ([89], (false, [98])) w.heap.size rfl) (by decide)
  refine h.mono ?_
  rintro e w' ⟨rfl, hb⟩
  exact ⟨rfl, ((Since.refl w).alloc _).trans hb⟩
theorem lv_two2 (v : Value) (w w0 : World) (hv : RowOf 3 bndC w0 v [([88], (false, [97])), ([89], (false, [97]))]) (hs : Since w0 w) :
    Calls Tryd.prog 19 #[v, .slice (some ⟨w.heap.size, 0, none⟩) 2 2] (w.alloc (.cells #[.string ⟨#[88]⟩, .bool false, .string ⟨#[97]⟩, .string ⟨#[89]⟩, .bool false, .string ⟨#[97]⟩] 49)) fun e w' => e = .returned (.bool true) ∧ Since w w' := by
  have h := same_bnd v (.slice (some ⟨w.heap.size, 0, none⟩) 2 2) [([88], (false, [97])), ([89], (false, [97]))] (w.alloc (.cells #[.string ⟨#[88]⟩, .bool false, .string ⟨#[97]⟩, .string ⟨#[89]⟩, .bool false, .string ⟨#[97]⟩] 49)) (hv.next (hs.alloc _)) (bnd_two w ([88], (false, [97])) ([89], (false, [97])) w.heap.size rfl) (by decide)
  refine h.mono ?_
  rintro e w' ⟨rfl, hb⟩
  exact ⟨rfl, ((Since.refl w).alloc _).trans hb⟩
set_option maxHeartbeats 2000000 in
set_option maxRecDepth 100000 in
theorem lives06_any (w : World) :
    Calls Tryd.prog 6 #[] w fun e w' => e = .returned (.bool true) ∧ Since w w' := by
  have hS := Since.refl w
  go_enter Tryd.func6, Tryd.ntmps6
  go_wp2_with fail
  refine (kA_X_b [97, 108, 105, 99, 101] [112] _ 0 2 _ (by rw [World.cell?_alloc_new]; rfl) (by rw [World.cell?_alloc_new]; rfl)).mono ?_
  rintro e w1 ⟨rfl, hb⟩
  replace hS := (hS.alloc _).trans hb
  clear hb
  go_wp2_with fail
  refine (kA_a_Y [97, 108, 105, 99, 101] [112] _ 0 2 _ (by rw [World.cell?_alloc_new]; rfl) (by rw [World.cell?_alloc_new]; rfl)).mono ?_
  rintro e w2 ⟨rfl, hb⟩
  replace hS := (hS.alloc _).trans hb
  clear hb
  go_wp2_with fail
  refine (lv_un1 _).mono ?_
  rintro e w3 ⟨v1, rfl, hv1, hb⟩
  replace hS := hS.trans hb
  have H1 := Lib.hid hv1
  clear hv1 hb
  go_wp2_with fail
  refine (kA_X_Y [97, 108, 105, 99, 101] [112] _ 0 2 _ (by rw [World.cell?_alloc_new]; rfl) (by rw [World.cell?_alloc_new]; rfl)).mono ?_
  rintro e w4 ⟨rfl, hb⟩
  replace hS := (hS.alloc _).trans hb
  replace H1 := Lib.hid (H1.out.next (((Since.refl _).alloc _).trans hb))
  clear hb
  go_wp2_with fail
  refine (kA_Y_a [97, 108, 105, 99, 101] [112] _ 0 2 _ (by rw [World.cell?_alloc_new]; rfl) (by rw [World.cell?_alloc_new]; rfl)).mono ?_
  rintro e w5 ⟨rfl, hb⟩
  replace hS := (hS.alloc _).trans hb
  replace H1 := Lib.hid (H1.out.next (((Since.refl _).alloc _).trans hb))
  clear hb
  go_wp2_with fail
  refine (lv_un2 _).mono ?_
  rintro e w6 ⟨v2, rfl, hv2, hb⟩
  replace hS := hS.trans hb
  replace H1 := Lib.hid (H1.out.next hb)
  have H2 := Lib.hid hv2
  clear hv2 hb
  go_wp2_with fail
  refine (kC_since [97] _).mono ?_
  rintro e w7 ⟨rfl, hb⟩
  replace hS := hS.trans hb
  replace H1 := Lib.hid (H1.out.next hb)
  replace H2 := Lib.hid (H2.out.next hb)
  clear hb
  go_wp2_with fail
  refine (kC_since [98] _).mono ?_
  rintro e w8 ⟨rfl, hb⟩
  replace hS := hS.trans hb
  replace H1 := Lib.hid (H1.out.next hb)
  replace H2 := Lib.hid (H2.out.next hb)
  clear hb
  go_wp2_with fail
  refine (lv_two1 v1 w8 w8 H1.out.1 (Since.refl _)).mono ?_
  rintro e w9 ⟨rfl, hb⟩
  replace hS := hS.trans hb
  replace H2 := Lib.hid (H2.out.next hb)
  clear hb
  go_wp2_with fail
  refine (kC_since [97] _).mono ?_
  rintro e w10 ⟨rfl, hb⟩
  replace hS := hS.trans hb
  replace H2 := Lib.hid (H2.out.next hb)
  clear hb
  go_wp2_with fail
  refine (kC_since [97] _).mono ?_
  rintro e w11 ⟨rfl, hb⟩
  replace hS := hS.trans hb
  replace H2 := Lib.hid (H2.out.next hb)
  clear hb
  go_wp2_with fail
  refine (lv_two2 v2 w11 w11 H2.out.1 (Since.refl _)).mono ?_
  rintro e w12 ⟨rfl, hb⟩
  replace hS := hS.trans hb
  clear hb
  go_wp2_with fail
  go_ret
  exact ⟨rfl, hS⟩
end Go.Proofs.YtohcehjpdmhjlaaDoor
