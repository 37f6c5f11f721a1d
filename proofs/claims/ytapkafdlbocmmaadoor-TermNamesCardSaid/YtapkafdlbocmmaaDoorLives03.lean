/- The chapter's examples of layer 3 have the results that it states. -/
import Derived.Test.YtapkafdlbocmmaaDoorKitT
import Derived.Test.YtapkafdlbocmmaaDoorTermP
namespace Go.Proofs.YtapkafdlbocmmaaDoor
open Go.RowKit

def livesA : Atm := ([97, 108, 105, 99, 101], [112], 2, (false, [97]), (true, [88]), (false, []), (false, []))
def livesB : Atm := ([98, 111, 98], [111, 112, 101, 110], 0, (false, []), (false, []), (false, []), (false, []))
theorem livesA_made : madeA [97, 108, 105, 99, 101] [112] [(false, [97]), (true, [88])] = (livesA, 0) := by kernel_rfl
theorem livesB_made : madeA [98, 111, 98] [111, 112, 101, 110] [] = (livesB, 0) := by kernel_rfl
theorem livesA_text : textA livesA = [97, 108, 105, 99, 101, 32, 115, 97, 121, 115, 32, 112, 40, 97, 44, 32, 88, 41] := by decide +kernel
theorem livesB_text : textA livesB = [98, 111, 98, 32, 115, 97, 121, 115, 32, 111, 112, 101, 110] := by decide +kernel
theorem livesA_light : Light livesA := by refine ⟨by decide, by decide, ?_⟩; decide
theorem livesB_light : Light livesB := by refine ⟨by decide, by decide, ?_⟩; decide

set_option maxHeartbeats 1000000 in
theorem madeLA (b o c : Nat) (w : World) (hE : Env w) (hc : ∀ k, (h : k < ([(false, [97]), (true, [88])] : List Tm).length) → w.cell? ⟨b, o + k * 2, none⟩ = some (.bool ([(false, [97]), (true, [88])] : List Tm)[k].1) ∧ w.cell? ⟨b, o + k * 2 + 1, none⟩ = some (.string ⟨([(false, [97]), (true, [88])] : List Tm)[k].2.toArray⟩)) (hc2 : 2 ≤ c) :
    Calls Tryd.prog 19 #[.string ⟨#[97, 108, 105, 99, 101]⟩, .string ⟨#[112]⟩, .slice (some ⟨b, o, none⟩) 2 c] w fun e w' => e = .returned (.tuple #[.agg #[.string ⟨#[97, 108, 105, 99, 101]⟩, .string ⟨#[112]⟩, .int .i64 2, .bool false, .string ⟨#[97]⟩, .bool true, .string ⟨#[88]⟩, .bool false, .string ⟨#[]⟩, .bool false, .string ⟨#[]⟩], .int .i64 0]) ∧ Since w w' := by
  have h := made_any [97, 108, 105, 99, 101] [112] (.slice (some ⟨b, o, none⟩) 2 c) [(false, [97]), (true, [88])] w hE (.inr ⟨b, o, c, rfl, hc2, hc⟩) (by decide) (by decide) (by decide) (by decide)
  rw [livesA_made] at h
  exact h
set_option maxHeartbeats 1000000 in
theorem madeLB (w : World) (hE : Env w) :
    Calls Tryd.prog 19 #[.string ⟨#[98, 111, 98]⟩, .string ⟨#[111, 112, 101, 110]⟩, .slice none 0 0] w fun e w' => e = .returned (.tuple #[.agg #[.string ⟨#[98, 111, 98]⟩, .string ⟨#[111, 112, 101, 110]⟩, .int .i64 0, .bool false, .string ⟨#[]⟩, .bool false, .string ⟨#[]⟩, .bool false, .string ⟨#[]⟩, .bool false, .string ⟨#[]⟩], .int .i64 0]) ∧ Since w w' := by
  have h := made_any [98, 111, 98] [111, 112, 101, 110] (.slice none 0 0) [] w hE (.inl ⟨rfl, rfl⟩) (by decide) (by decide) (by simp) (by decide)
  rw [livesB_made] at h
  exact h
set_option maxHeartbeats 1000000 in
theorem textLA (w : World) : Calls Tryd.prog 23 #[.agg #[.string ⟨#[97, 108, 105, 99, 101]⟩, .string ⟨#[112]⟩, .int .i64 2, .bool false, .string ⟨#[97]⟩, .bool true, .string ⟨#[88]⟩, .bool false, .string ⟨#[]⟩, .bool false, .string ⟨#[]⟩]] w fun e w' => e = .returned (.string ⟨#[97, 108, 105, 99, 101, 32, 115, 97, 121, 115, 32, 112, 40, 97, 44, 32, 88, 41]⟩) ∧ Since w w' := by
  have h := text_any [97, 108, 105, 99, 101] [112] 2 false true false false [97] [88] [] [] w livesA_light
  rw [show ([97, 108, 105, 99, 101], [112], 2, (false, [97]), (true, [88]), (false, []), (false, [])) = livesA from rfl, livesA_text] at h
  exact h
set_option maxHeartbeats 1000000 in
theorem textLB (w : World) : Calls Tryd.prog 23 #[.agg #[.string ⟨#[98, 111, 98]⟩, .string ⟨#[111, 112, 101, 110]⟩, .int .i64 0, .bool false, .string ⟨#[]⟩, .bool false, .string ⟨#[]⟩, .bool false, .string ⟨#[]⟩, .bool false, .string ⟨#[]⟩]] w fun e w' => e = .returned (.string ⟨#[98, 111, 98, 32, 115, 97, 121, 115, 32, 111, 112, 101, 110]⟩) ∧ Since w w' := by
  have h := text_any [98, 111, 98] [111, 112, 101, 110] 0 false false false false [] [] [] [] w livesB_light
  rw [show ([98, 111, 98], [111, 112, 101, 110], 0, (false, []), (false, []), (false, []), (false, [])) = livesB from rfl, livesB_text] at h
  exact h

set_option maxHeartbeats 1000000 in
set_option maxRecDepth 100000 in
theorem lives03_any (w : World) (hE : Env w) :
    Calls Tryd.prog 18 #[] w fun e w' => e = .returned (.bool true) ∧ Since w w' := by
  have hS := Since.refl w
  go_enter Tryd.func18, Tryd.ntmps18
  go_wp2_with fail
  refine (kC_any [97] _).mono ?_
  rintro e w1 ⟨rfl, hb1⟩
  replace hE := hE.next hb1; replace hS := hS.trans hb1
  go_wp2_with fail
  refine (kV_any [88] _).mono ?_
  rintro e w2 ⟨rfl, hb2⟩
  replace hE := hE.next hb2; replace hS := hS.trans hb2
  clear hb1 hb2
  go_wp2_with fail
  refine (madeLA w2.heap.size 0 2 _ (hE.next ((Since.refl _).alloc _)) ?_ (by decide)).mono ?_
  · intro k hk
    rw [World.cell?_alloc_new, World.cell?_alloc_new]
    match k, hk with
    | 0, _ => exact ⟨rfl, rfl⟩
    | 1, _ => exact ⟨rfl, rfl⟩
  rintro e w3 ⟨rfl, hb3⟩
  replace hE := (hE.next ((Since.refl _).alloc _)).next hb3; replace hS := (hS.alloc _).trans hb3
  clear hb3
  go_wp2_with fail
  have hE2 := hE
  refine (madeLB _ (hE.next ((Since.refl _).alloc _))).mono ?_
  rintro e w4 ⟨rfl, hb4⟩
  have hB1 := (box_new w3 livesA 26).next hb4
  obtain ⟨b0, b1, b2, b3, b4, b5, b6, b7, b8, b9, b10⟩ := hB1.all
  replace hS := (hS.alloc _).trans hb4
  have hz : w3.heap.size < w4.heap.size := World.block_lt_of_cell? w4 _ b0
  clear hb4 hE hE2
  go_wp2_with fail
  refine (textLA _).mono ?_
  rintro e w5 ⟨rfl, hb5⟩
  have hB2 := (box_new w4 livesB 26).next hb5
  obtain ⟨c0, c1, c2, c3, c4, c5, c6, c7, c8, c9, c10⟩ := hB2.all
  replace hS := (hS.alloc _).trans hb5
  clear hb5 b0 b1 b2 b3 b4 b5 b6 b7 b8 b9 b10
  go_wp2_with fail
  refine (textLB _).mono ?_
  rintro e w6 ⟨rfl, hb6⟩
  go_wp2_with fail
  go_ret
  exact ⟨rfl, hS.trans hb6⟩
end Go.Proofs.YtapkafdlbocmmaaDoor
