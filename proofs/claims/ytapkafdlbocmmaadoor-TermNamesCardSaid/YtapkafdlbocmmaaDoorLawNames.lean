/- TermNames returns true, in every world in which the library's table strings.asciiSpace stands. -/
import Derived.Test.YtapkafdlbocmmaaDoorLawCalls
import Derived.Test.YtapkafdlbocmmaaDoorKitA
namespace Go.Proofs.YtapkafdlbocmmaaDoor
open Go.RowKit

theorem nm_cx : checkA (([97, 108, 105, 99, 101], [112], 4, (true, [88]), (false, [97]), (true, [88]), (true, [89])) : Atm) = 0 := by kernel_rfl
theorem nm_codd : checkA (([97, 108, 105, 99, 101], [112], 3, (true, [88]), (false, [97]), (true, [88]), (true, [89])) : Atm) = 15 := by kernel_rfl
theorem nm_cbig : checkA (([97, 108, 105, 99, 101], [112], 5, (true, [88]), (false, [97]), (true, [88]), (true, [89])) : Atm) = 4 := by kernel_rfl
theorem nm_cnon : checkA (([97, 108, 105, 99, 101], [112], (-1), (true, [88]), (false, [97]), (true, [88]), (true, [89])) : Atm) = 4 := by kernel_rfl
theorem nm_gx : groundA (([97, 108, 105, 99, 101], [112], 4, (true, [88]), (false, [97]), (true, [88]), (true, [89])) : Atm) = false := by kernel_rfl
theorem nm_gnon : groundA (([97, 108, 105, 99, 101], [112], (-1), (true, [88]), (false, [97]), (true, [88]), (true, [89])) : Atm) = true := by kernel_rfl
theorem nm_gone : groundA (([97, 108, 105, 99, 101], [112], 1, (false, [97]), (false, []), (false, []), (false, [])) : Atm) = true := by kernel_rfl
theorem nm_vx : namesA (([97, 108, 105, 99, 101], [112], 4, (true, [88]), (false, [97]), (true, [88]), (true, [89])) : Atm) true = [[88], [89]] := by kernel_rfl
theorem nm_kx : namesA (([97, 108, 105, 99, 101], [112], 4, (true, [88]), (false, [97]), (true, [88]), (true, [89])) : Atm) false = [[97]] := by kernel_rfl
theorem nm_vnon : namesA (([97, 108, 105, 99, 101], [112], (-1), (true, [88]), (false, [97]), (true, [88]), (true, [89])) : Atm) true = [] := by kernel_rfl
theorem nm_tnon : textA (([97, 108, 105, 99, 101], [112], (-1), (true, [88]), (false, [97]), (true, [88]), (true, [89])) : Atm) = [97, 108, 105, 99, 101, 32, 115, 97, 121, 115, 32, 112] := by kernel_rfl
theorem nm_tbig : textA (([97, 108, 105, 99, 101], [112], 5, (true, [88]), (false, [97]), (true, [88]), (true, [89])) : Atm) = [97, 108, 105, 99, 101, 32, 115, 97, 121, 115, 32, 112, 40, 88, 44, 32, 97, 44, 32, 88, 44, 32, 89, 41] := by kernel_rfl
theorem nm_m5 : madeA [97, 108, 105, 99, 101] [112] [(false, [97]), (false, [97]), (false, [97]), (false, [97]), (false, [97])] = (zeroA, 4) := by kernel_rfl
theorem nm_mA : madeA [65, 108, 105, 99, 101] [112] [] = (zeroA, 3) := by kernel_rfl
theorem nm_mx : madeA [97, 108, 105, 99, 101] [112] [(true, [120])] = (zeroA, 3) := by kernel_rfl
theorem nm_t9 : termB (false, [57]) = true := by kernel_rfl
theorem nm_tX : termB (false, [88]) = false := by kernel_rfl
theorem nm_t0 : termB (false, []) = false := by kernel_rfl
theorem row_lit (L : List (List UInt8)) (w : World) (t : TypeId) : Row (w.alloc (.cells (L.map strV).toArray t)) (.slice (some ⟨w.heap.size, 0, none⟩) L.length L.length) L.length (L.map strV) := by
  refine .inr ⟨_, _, _, rfl, Nat.le_refl _, fun j hj => ?_⟩
  have hj' : j < L.length := by simpa using hj
  rw [World.cell?_alloc_new, Nat.zero_add]
  simp [hj']
theorem fits_small (a : Atm) (h : (decide (a.1.length ≤ 300) && decide (a.2.1.length ≤ 300) && (argsL a).all fun t => decide (t.2.length ≤ 300)) = true) : FitsA a ∧ Light a := by
  simp only [Bool.and_eq_true, decide_eq_true_eq, List.all_eq_true] at h
  obtain ⟨⟨h1, h2⟩, h3⟩ := h
  refine ⟨⟨?_, ?_, fun t ht => ?_⟩, h1, h2, h3⟩
  · unfold maxLen; omega
  · unfold maxLen; omega
  · have := h3 t ht
    unfold maxLen; omega
theorem nm_fx : FitsA (([97, 108, 105, 99, 101], [112], 4, (true, [88]), (false, [97]), (true, [88]), (true, [89])) : Atm) ∧ Light (([97, 108, 105, 99, 101], [112], 4, (true, [88]), (false, [97]), (true, [88]), (true, [89])) : Atm) := fits_small _ (by decide)
theorem nm_fodd : FitsA (([97, 108, 105, 99, 101], [112], 3, (true, [88]), (false, [97]), (true, [88]), (true, [89])) : Atm) ∧ Light (([97, 108, 105, 99, 101], [112], 3, (true, [88]), (false, [97]), (true, [88]), (true, [89])) : Atm) := fits_small _ (by decide)
theorem nm_fbig : FitsA (([97, 108, 105, 99, 101], [112], 5, (true, [88]), (false, [97]), (true, [88]), (true, [89])) : Atm) ∧ Light (([97, 108, 105, 99, 101], [112], 5, (true, [88]), (false, [97]), (true, [88]), (true, [89])) : Atm) := fits_small _ (by decide)
theorem nm_fnon : FitsA (([97, 108, 105, 99, 101], [112], (-1), (true, [88]), (false, [97]), (true, [88]), (true, [89])) : Atm) ∧ Light (([97, 108, 105, 99, 101], [112], (-1), (true, [88]), (false, [97]), (true, [88]), (true, [89])) : Atm) := fits_small _ (by decide)
theorem nm_fone : FitsA (([97, 108, 105, 99, 101], [112], 1, (false, [97]), (false, []), (false, []), (false, [])) : Atm) ∧ Light (([97, 108, 105, 99, 101], [112], 1, (false, [97]), (false, []), (false, []), (false, [])) : Atm) := fits_small _ (by decide)
theorem nm_check_x (w : World) (hE : Env w) : Calls Tryd.prog 21 #[.agg #[.string ⟨#[97, 108, 105, 99, 101]⟩, .string ⟨#[112]⟩, .int .i64 4, .bool true, .string ⟨#[88]⟩, .bool false, .string ⟨#[97]⟩, .bool true, .string ⟨#[88]⟩, .bool true, .string ⟨#[89]⟩]] w fun e w' => e = .returned (.int .i64 0) ∧ Since w w' := by
  have h := check_any [97, 108, 105, 99, 101] [112] 4 true false true true [88] [97] [88] [89] w nm_fx.1 hE
  rw [nm_cx] at h; exact h
theorem nm_check_odd (w : World) (hE : Env w) : Calls Tryd.prog 21 #[.agg #[.string ⟨#[97, 108, 105, 99, 101]⟩, .string ⟨#[112]⟩, .int .i64 3, .bool true, .string ⟨#[88]⟩, .bool false, .string ⟨#[97]⟩, .bool true, .string ⟨#[88]⟩, .bool true, .string ⟨#[89]⟩]] w fun e w' => e = .returned (.int .i64 15) ∧ Since w w' := by
  have h := check_any [97, 108, 105, 99, 101] [112] 3 true false true true [88] [97] [88] [89] w nm_fodd.1 hE
  rw [nm_codd] at h; exact h
theorem nm_check_big (w : World) (hE : Env w) : Calls Tryd.prog 21 #[.agg #[.string ⟨#[97, 108, 105, 99, 101]⟩, .string ⟨#[112]⟩, .int .i64 5, .bool true, .string ⟨#[88]⟩, .bool false, .string ⟨#[97]⟩, .bool true, .string ⟨#[88]⟩, .bool true, .string ⟨#[89]⟩]] w fun e w' => e = .returned (.int .i64 4) ∧ Since w w' := by
  have h := check_any [97, 108, 105, 99, 101] [112] 5 true false true true [88] [97] [88] [89] w nm_fbig.1 hE
  rw [nm_cbig] at h; exact h
theorem nm_check_non (w : World) (hE : Env w) : Calls Tryd.prog 21 #[.agg #[.string ⟨#[97, 108, 105, 99, 101]⟩, .string ⟨#[112]⟩, .int .i64 (-1), .bool true, .string ⟨#[88]⟩, .bool false, .string ⟨#[97]⟩, .bool true, .string ⟨#[88]⟩, .bool true, .string ⟨#[89]⟩]] w fun e w' => e = .returned (.int .i64 4) ∧ Since w w' := by
  have h := check_any [97, 108, 105, 99, 101] [112] (-1) true false true true [88] [97] [88] [89] w nm_fnon.1 hE
  rw [nm_cnon] at h; exact h
theorem nm_ground_x (w : World) (hE : Env w) : Calls Tryd.prog 28 #[.agg #[.string ⟨#[97, 108, 105, 99, 101]⟩, .string ⟨#[112]⟩, .int .i64 4, .bool true, .string ⟨#[88]⟩, .bool false, .string ⟨#[97]⟩, .bool true, .string ⟨#[88]⟩, .bool true, .string ⟨#[89]⟩]] w fun e w' => e = .returned (.bool false) ∧ Since w w' := by
  have h := ground_any [97, 108, 105, 99, 101] [112] 4 true false true true [88] [97] [88] [89] w nm_fx.1 hE
  rw [nm_gx] at h; exact h
theorem nm_ground_non (w : World) (hE : Env w) : Calls Tryd.prog 28 #[.agg #[.string ⟨#[97, 108, 105, 99, 101]⟩, .string ⟨#[112]⟩, .int .i64 (-1), .bool true, .string ⟨#[88]⟩, .bool false, .string ⟨#[97]⟩, .bool true, .string ⟨#[88]⟩, .bool true, .string ⟨#[89]⟩]] w fun e w' => e = .returned (.bool true) ∧ Since w w' := by
  have h := ground_any [97, 108, 105, 99, 101] [112] (-1) true false true true [88] [97] [88] [89] w nm_fnon.1 hE
  rw [nm_gnon] at h; exact h
theorem nm_ground_one (w : World) (hE : Env w) : Calls Tryd.prog 28 #[.agg #[.string ⟨#[97, 108, 105, 99, 101]⟩, .string ⟨#[112]⟩, .int .i64 1, .bool false, .string ⟨#[97]⟩, .bool false, .string ⟨#[]⟩, .bool false, .string ⟨#[]⟩, .bool false, .string ⟨#[]⟩]] w fun e w' => e = .returned (.bool true) ∧ Since w w' := by
  have h := ground_any [97, 108, 105, 99, 101] [112] 1 false false false false [97] [] [] [] w nm_fone.1 hE
  rw [nm_gone] at h; exact h
theorem nm_text_non (w : World) : Calls Tryd.prog 23 #[.agg #[.string ⟨#[97, 108, 105, 99, 101]⟩, .string ⟨#[112]⟩, .int .i64 (-1), .bool true, .string ⟨#[88]⟩, .bool false, .string ⟨#[97]⟩, .bool true, .string ⟨#[88]⟩, .bool true, .string ⟨#[89]⟩]] w fun e w' => e = .returned (.string ⟨#[97, 108, 105, 99, 101, 32, 115, 97, 121, 115, 32, 112]⟩) ∧ Since w w' := by
  have h := text_any [97, 108, 105, 99, 101] [112] (-1) true false true true [88] [97] [88] [89] w nm_fnon.2
  rw [nm_tnon] at h; exact h
theorem nm_text_big (w : World) : Calls Tryd.prog 23 #[.agg #[.string ⟨#[97, 108, 105, 99, 101]⟩, .string ⟨#[112]⟩, .int .i64 5, .bool true, .string ⟨#[88]⟩, .bool false, .string ⟨#[97]⟩, .bool true, .string ⟨#[88]⟩, .bool true, .string ⟨#[89]⟩]] w fun e w' => e = .returned (.string ⟨#[97, 108, 105, 99, 101, 32, 115, 97, 121, 115, 32, 112, 40, 88, 44, 32, 97, 44, 32, 88, 44, 32, 89, 41]⟩) ∧ Since w w' := by
  have h := text_any [97, 108, 105, 99, 101] [112] 5 true false true true [88] [97] [88] [89] w nm_fbig.2
  rw [nm_tbig] at h; exact h
theorem nm_term_9 (w : World) (hE : Env w) : Calls Tryd.prog 22 #[.agg #[.bool false, .string ⟨#[57]⟩]] w fun e w' => e = .returned (.bool true) ∧ Since w w' := by
  have h := term_any false [57] w (by decide) hE
  rw [nm_t9] at h; exact h
theorem nm_term_X (w : World) (hE : Env w) : Calls Tryd.prog 22 #[.agg #[.bool false, .string ⟨#[88]⟩]] w fun e w' => e = .returned (.bool false) ∧ Since w w' := by
  have h := term_any false [88] w (by decide) hE
  rw [nm_tX] at h; exact h
theorem nm_term_0 (w : World) (hE : Env w) : Calls Tryd.prog 22 #[.agg #[.bool false, .string ⟨#[]⟩]] w fun e w' => e = .returned (.bool false) ∧ Since w w' := by
  have h := term_any false [] w (by decide) hE
  rw [nm_t0] at h; exact h
theorem nm_vars_x (w : World) : Calls Tryd.prog 24 #[.agg #[.string ⟨#[97, 108, 105, 99, 101]⟩, .string ⟨#[112]⟩, .int .i64 4, .bool true, .string ⟨#[88]⟩, .bool false, .string ⟨#[97]⟩, .bool true, .string ⟨#[88]⟩, .bool true, .string ⟨#[89]⟩]] w (Strs w [[88], [89]]) := by
  have h := vars_any [97, 108, 105, 99, 101] [112] 4 true false true true [88] [97] [88] [89] w
  rw [nm_vx] at h; exact h
theorem nm_consts_x (w : World) : Calls Tryd.prog 30 #[.agg #[.string ⟨#[97, 108, 105, 99, 101]⟩, .string ⟨#[112]⟩, .int .i64 4, .bool true, .string ⟨#[88]⟩, .bool false, .string ⟨#[97]⟩, .bool true, .string ⟨#[88]⟩, .bool true, .string ⟨#[89]⟩]] w (Strs w [[97]]) := by
  have h := consts_any [97, 108, 105, 99, 101] [112] 4 true false true true [88] [97] [88] [89] w
  rw [nm_kx] at h; exact h
theorem nm_vars_non (w : World) : Calls Tryd.prog 24 #[.agg #[.string ⟨#[97, 108, 105, 99, 101]⟩, .string ⟨#[112]⟩, .int .i64 (-1), .bool true, .string ⟨#[88]⟩, .bool false, .string ⟨#[97]⟩, .bool true, .string ⟨#[88]⟩, .bool true, .string ⟨#[89]⟩]] w (Strs w []) := by
  have h := vars_any [97, 108, 105, 99, 101] [112] (-1) true false true true [88] [97] [88] [89] w
  rw [nm_vnon] at h; exact h
theorem nm_made5 (b c : Nat) (w : World) (hE : Env w) (hc : ∀ k, (h : k < ([(false, [97]), (false, [97]), (false, [97]), (false, [97]), (false, [97])] : List Tm).length) → w.cell? ⟨b, 0 + k * 2, none⟩ = some (.bool ([(false, [97]), (false, [97]), (false, [97]), (false, [97]), (false, [97])] : List Tm)[k].1) ∧ w.cell? ⟨b, 0 + k * 2 + 1, none⟩ = some (.string ⟨([(false, [97]), (false, [97]), (false, [97]), (false, [97]), (false, [97])] : List Tm)[k].2.toArray⟩)) (hc2 : 5 ≤ c) :
    Calls Tryd.prog 19 #[.string ⟨#[97, 108, 105, 99, 101]⟩, .string ⟨#[112]⟩, .slice (some ⟨b, 0, none⟩) 5 c] w fun e w' => e = .returned (.tuple #[.agg #[.string ⟨#[]⟩, .string ⟨#[]⟩, .int .i64 0, .bool false, .string ⟨#[]⟩, .bool false, .string ⟨#[]⟩, .bool false, .string ⟨#[]⟩, .bool false, .string ⟨#[]⟩], .int .i64 4]) ∧ Since w w' := by
  have h := made_any [97, 108, 105, 99, 101] [112] (.slice (some ⟨b, 0, none⟩) 5 c) [(false, [97]), (false, [97]), (false, [97]), (false, [97]), (false, [97])] w hE (.inr ⟨b, 0, c, rfl, hc2, hc⟩) (by decide) (by decide) (by decide) (by decide)
  rw [nm_m5] at h; exact h
theorem nm_madeA (w : World) (hE : Env w) : Calls Tryd.prog 19 #[.string ⟨#[65, 108, 105, 99, 101]⟩, .string ⟨#[112]⟩, .slice none 0 0] w fun e w' => e = .returned (.tuple #[.agg #[.string ⟨#[]⟩, .string ⟨#[]⟩, .int .i64 0, .bool false, .string ⟨#[]⟩, .bool false, .string ⟨#[]⟩, .bool false, .string ⟨#[]⟩, .bool false, .string ⟨#[]⟩], .int .i64 3]) ∧ Since w w' := by
  have h := made_any [65, 108, 105, 99, 101] [112] (.slice none 0 0) [] w hE (.inl ⟨rfl, rfl⟩) (by decide) (by decide) (by simp) (by decide)
  rw [nm_mA] at h; exact h
theorem nm_madex (b c : Nat) (w : World) (hE : Env w) (hc : ∀ k, (h : k < ([(true, [120])] : List Tm).length) → w.cell? ⟨b, 0 + k * 2, none⟩ = some (.bool ([(true, [120])] : List Tm)[k].1) ∧ w.cell? ⟨b, 0 + k * 2 + 1, none⟩ = some (.string ⟨([(true, [120])] : List Tm)[k].2.toArray⟩)) (hc2 : 1 ≤ c) :
    Calls Tryd.prog 19 #[.string ⟨#[97, 108, 105, 99, 101]⟩, .string ⟨#[112]⟩, .slice (some ⟨b, 0, none⟩) 1 c] w fun e w' => e = .returned (.tuple #[.agg #[.string ⟨#[]⟩, .string ⟨#[]⟩, .int .i64 0, .bool false, .string ⟨#[]⟩, .bool false, .string ⟨#[]⟩, .bool false, .string ⟨#[]⟩, .bool false, .string ⟨#[]⟩], .int .i64 3]) ∧ Since w w' := by
  have h := made_any [97, 108, 105, 99, 101] [112] (.slice (some ⟨b, 0, none⟩) 1 c) [(true, [120])] w hE (.inr ⟨b, 0, c, rfl, hc2, hc⟩) (by decide) (by decide) (by decide) (by decide)
  rw [nm_mx] at h; exact h

set_option maxHeartbeats 8000000 in
set_option maxRecDepth 100000 in
theorem names03_walk (w : World) (hE : Env w) : Calls Tryd.prog 6 #[] w fun e w' => e = .returned (.bool true) ∧ Since w w' := by
  have hS := Since.refl w
  go_enter Tryd.func6, Tryd.ntmps6
  go_wp2_with fail
  refine (lives03_any _ hE).mono ?_
  rintro e w1 ⟨rfl, hb⟩
  replace hE := hE.next hb; replace hS := hS.trans hb
  clear hb
  go_wp2_with fail
  refine (kA_X_a_X_Y _ _ _ 0 _ _ ?_ ?_ ?_ ?_).mono ?_
  · rw [World.cell?_alloc_new]; rfl
  · rw [World.cell?_alloc_new]; rfl
  · rw [World.cell?_alloc_new]; rfl
  · rw [World.cell?_alloc_new]; rfl
  rintro e w2 ⟨rfl, hb⟩
  replace hb := Since.trans ((Since.refl w1).alloc _) hb
  replace hE := hE.next hb; replace hS := hS.trans hb
  clear hb
  go_wp2_with fail
  have x_B : Box (w2.alloc (.cells #[.string ⟨#[97, 108, 105, 99, 101]⟩, .string ⟨#[112]⟩, .int .i64 4, .bool true, .string ⟨#[88]⟩, .bool false, .string ⟨#[97]⟩, .bool true, .string ⟨#[88]⟩, .bool true, .string ⟨#[89]⟩] 26)) w2.heap.size (([97, 108, 105, 99, 101], [112], 4, (true, [88]), (false, [97]), (true, [88]), (true, [89])) : Atm) := box_new w2 (([97, 108, 105, 99, 101], [112], 4, (true, [88]), (false, [97]), (true, [88]), (true, [89])) : Atm) _
  have hb : Since w2 (w2.alloc (.cells #[.string ⟨#[97, 108, 105, 99, 101]⟩, .string ⟨#[112]⟩, .int .i64 4, .bool true, .string ⟨#[88]⟩, .bool false, .string ⟨#[97]⟩, .bool true, .string ⟨#[88]⟩, .bool true, .string ⟨#[89]⟩] 26)) := (Since.refl _).alloc _
  replace hE := hE.next hb; replace hS := hS.trans hb
  clear hb
  go_wp2_with fail
  refine (kC_any [97] _).mono ?_
  rintro e w3 ⟨rfl, hb⟩
  replace hE := hE.next hb; replace hS := hS.trans hb; replace x_B := x_B.next hb
  clear hb
  go_wp2_with fail
  refine (kC_any [97] _).mono ?_
  rintro e w3 ⟨rfl, hb⟩
  replace hE := hE.next hb; replace hS := hS.trans hb; replace x_B := x_B.next hb
  clear hb
  go_wp2_with fail
  refine (kC_any [97] _).mono ?_
  rintro e w3 ⟨rfl, hb⟩
  replace hE := hE.next hb; replace hS := hS.trans hb; replace x_B := x_B.next hb
  clear hb
  go_wp2_with fail
  refine (kC_any [97] _).mono ?_
  rintro e w3 ⟨rfl, hb⟩
  replace hE := hE.next hb; replace hS := hS.trans hb; replace x_B := x_B.next hb
  clear hb
  go_wp2_with fail
  refine (kC_any [97] _).mono ?_
  rintro e w3 ⟨rfl, hb⟩
  replace hE := hE.next hb; replace hS := hS.trans hb; replace x_B := x_B.next hb
  clear hb
  go_wp2_with fail
  refine (nm_made5 _ _ _ (hE.next ((Since.refl _).alloc _)) ?_ (by decide)).mono ?_
  · intro k hk
    rw [World.cell?_alloc_new, World.cell?_alloc_new]
    match k, hk with
    | 0, _ => exact ⟨rfl, rfl⟩
    | 1, _ => exact ⟨rfl, rfl⟩
    | 2, _ => exact ⟨rfl, rfl⟩
    | 3, _ => exact ⟨rfl, rfl⟩
    | 4, _ => exact ⟨rfl, rfl⟩
  rintro e w4 ⟨rfl, hb⟩
  replace hb := Since.trans ((Since.refl _).alloc _) hb
  replace hE := hE.next hb; replace hS := hS.trans hb; replace x_B := x_B.next hb
  clear hb
  go_wp2_with fail
  have hb : Since w4 (w4.alloc (.cells #[.string ⟨#[]⟩, .string ⟨#[]⟩, .int .i64 0, .bool false, .string ⟨#[]⟩, .bool false, .string ⟨#[]⟩, .bool false, .string ⟨#[]⟩, .bool false, .string ⟨#[]⟩] 26)) := (Since.refl _).alloc _
  replace hE := hE.next hb; replace hS := hS.trans hb; replace x_B := x_B.next hb
  refine (nm_madeA _ hE).mono ?_
  rintro e w5 ⟨rfl, hb⟩
  replace hE := hE.next hb; replace hS := hS.trans hb; replace x_B := x_B.next hb
  clear hb
  go_wp2_with fail
  have hb : Since w5 (w5.alloc (.cells #[.string ⟨#[]⟩, .string ⟨#[]⟩, .int .i64 0, .bool false, .string ⟨#[]⟩, .bool false, .string ⟨#[]⟩, .bool false, .string ⟨#[]⟩, .bool false, .string ⟨#[]⟩] 26)) := (Since.refl _).alloc _
  replace hE := hE.next hb; replace hS := hS.trans hb; replace x_B := x_B.next hb
  clear hb
  refine (kV_any [120] _).mono ?_
  rintro e w6 ⟨rfl, hb⟩
  replace hE := hE.next hb; replace hS := hS.trans hb; replace x_B := x_B.next hb
  clear hb
  go_wp2_with fail
  refine (nm_madex _ _ _ (hE.next ((Since.refl _).alloc _)) ?_ (by decide)).mono ?_
  · intro k hk
    rw [World.cell?_alloc_new, World.cell?_alloc_new]
    match k, hk with
    | 0, _ => exact ⟨rfl, rfl⟩
  rintro e w7 ⟨rfl, hb⟩
  replace hb := Since.trans ((Since.refl _).alloc _) hb
  replace hE := hE.next hb; replace hS := hS.trans hb; replace x_B := x_B.next hb
  clear hb
  obtain ⟨x_c0, x_c1, x_c2, x_c3, x_c4, x_c5, x_c6, x_c7, x_c8, x_c9, x_c10⟩ := x_B.all
  have hz : w2.heap.size < w7.heap.size := World.block_lt_of_cell? _ _ x_c0
  have hz1 : w2.heap.size < w7.heap.size + 1 := by omega
  have hz2 : w2.heap.size < w7.heap.size + 1 + 1 := by omega
  have hz3 : w2.heap.size < w7.heap.size + 1 + 1 + 1 := by omega
  go_wp2_with fail
  have hb : Since w7 ((((w7.alloc (.cells #[.string ⟨#[]⟩, .string ⟨#[]⟩, .int .i64 0, .bool false, .string ⟨#[]⟩, .bool false, .string ⟨#[]⟩, .bool false, .string ⟨#[]⟩, .bool false, .string ⟨#[]⟩] 26)).alloc (.cells #[.string ⟨#[97, 108, 105, 99, 101]⟩, .string ⟨#[112]⟩, .int .i64 3, .bool true, .string ⟨#[88]⟩, .bool false, .string ⟨#[97]⟩, .bool true, .string ⟨#[88]⟩, .bool true, .string ⟨#[89]⟩] 26)).alloc (.cells #[.string ⟨#[97, 108, 105, 99, 101]⟩, .string ⟨#[112]⟩, .int .i64 5, .bool true, .string ⟨#[88]⟩, .bool false, .string ⟨#[97]⟩, .bool true, .string ⟨#[88]⟩, .bool true, .string ⟨#[89]⟩] 26)).alloc (.cells #[.string ⟨#[97, 108, 105, 99, 101]⟩, .string ⟨#[112]⟩, .int .i64 (-1), .bool true, .string ⟨#[88]⟩, .bool false, .string ⟨#[97]⟩, .bool true, .string ⟨#[88]⟩, .bool true, .string ⟨#[89]⟩] 26)) := ((((Since.refl _).alloc _).alloc _).alloc _).alloc _
  have o_B : Box ((w7.alloc (.cells #[.string ⟨#[]⟩, .string ⟨#[]⟩, .int .i64 0, .bool false, .string ⟨#[]⟩, .bool false, .string ⟨#[]⟩, .bool false, .string ⟨#[]⟩, .bool false, .string ⟨#[]⟩] 26)).alloc (.cells #[.string ⟨#[97, 108, 105, 99, 101]⟩, .string ⟨#[112]⟩, .int .i64 3, .bool true, .string ⟨#[88]⟩, .bool false, .string ⟨#[97]⟩, .bool true, .string ⟨#[88]⟩, .bool true, .string ⟨#[89]⟩] 26)) (w7.heap.size + 1) (([97, 108, 105, 99, 101], [112], 3, (true, [88]), (false, [97]), (true, [88]), (true, [89])) : Atm) := by
    have := box_new (w7.alloc (.cells #[.string ⟨#[]⟩, .string ⟨#[]⟩, .int .i64 0, .bool false, .string ⟨#[]⟩, .bool false, .string ⟨#[]⟩, .bool false, .string ⟨#[]⟩, .bool false, .string ⟨#[]⟩] 26)) (([97, 108, 105, 99, 101], [112], 3, (true, [88]), (false, [97]), (true, [88]), (true, [89])) : Atm) 26
    rwa [World.size_alloc] at this
  have g_B : Box (((w7.alloc (.cells #[.string ⟨#[]⟩, .string ⟨#[]⟩, .int .i64 0, .bool false, .string ⟨#[]⟩, .bool false, .string ⟨#[]⟩, .bool false, .string ⟨#[]⟩, .bool false, .string ⟨#[]⟩] 26)).alloc (.cells #[.string ⟨#[97, 108, 105, 99, 101]⟩, .string ⟨#[112]⟩, .int .i64 3, .bool true, .string ⟨#[88]⟩, .bool false, .string ⟨#[97]⟩, .bool true, .string ⟨#[88]⟩, .bool true, .string ⟨#[89]⟩] 26)).alloc (.cells #[.string ⟨#[97, 108, 105, 99, 101]⟩, .string ⟨#[112]⟩, .int .i64 5, .bool true, .string ⟨#[88]⟩, .bool false, .string ⟨#[97]⟩, .bool true, .string ⟨#[88]⟩, .bool true, .string ⟨#[89]⟩] 26)) (w7.heap.size + 1 + 1) (([97, 108, 105, 99, 101], [112], 5, (true, [88]), (false, [97]), (true, [88]), (true, [89])) : Atm) := by
    have := box_new ((w7.alloc (.cells #[.string ⟨#[]⟩, .string ⟨#[]⟩, .int .i64 0, .bool false, .string ⟨#[]⟩, .bool false, .string ⟨#[]⟩, .bool false, .string ⟨#[]⟩, .bool false, .string ⟨#[]⟩] 26)).alloc (.cells #[.string ⟨#[97, 108, 105, 99, 101]⟩, .string ⟨#[112]⟩, .int .i64 3, .bool true, .string ⟨#[88]⟩, .bool false, .string ⟨#[97]⟩, .bool true, .string ⟨#[88]⟩, .bool true, .string ⟨#[89]⟩] 26)) (([97, 108, 105, 99, 101], [112], 5, (true, [88]), (false, [97]), (true, [88]), (true, [89])) : Atm) 26
    rwa [World.size_alloc, World.size_alloc] at this
  have n_B : Box ((((w7.alloc (.cells #[.string ⟨#[]⟩, .string ⟨#[]⟩, .int .i64 0, .bool false, .string ⟨#[]⟩, .bool false, .string ⟨#[]⟩, .bool false, .string ⟨#[]⟩, .bool false, .string ⟨#[]⟩] 26)).alloc (.cells #[.string ⟨#[97, 108, 105, 99, 101]⟩, .string ⟨#[112]⟩, .int .i64 3, .bool true, .string ⟨#[88]⟩, .bool false, .string ⟨#[97]⟩, .bool true, .string ⟨#[88]⟩, .bool true, .string ⟨#[89]⟩] 26)).alloc (.cells #[.string ⟨#[97, 108, 105, 99, 101]⟩, .string ⟨#[112]⟩, .int .i64 5, .bool true, .string ⟨#[88]⟩, .bool false, .string ⟨#[97]⟩, .bool true, .string ⟨#[88]⟩, .bool true, .string ⟨#[89]⟩] 26)).alloc (.cells #[.string ⟨#[97, 108, 105, 99, 101]⟩, .string ⟨#[112]⟩, .int .i64 (-1), .bool true, .string ⟨#[88]⟩, .bool false, .string ⟨#[97]⟩, .bool true, .string ⟨#[88]⟩, .bool true, .string ⟨#[89]⟩] 26)) (w7.heap.size + 1 + 1 + 1) (([97, 108, 105, 99, 101], [112], (-1), (true, [88]), (false, [97]), (true, [88]), (true, [89])) : Atm) := by
    have := box_new (((w7.alloc (.cells #[.string ⟨#[]⟩, .string ⟨#[]⟩, .int .i64 0, .bool false, .string ⟨#[]⟩, .bool false, .string ⟨#[]⟩, .bool false, .string ⟨#[]⟩, .bool false, .string ⟨#[]⟩] 26)).alloc (.cells #[.string ⟨#[97, 108, 105, 99, 101]⟩, .string ⟨#[112]⟩, .int .i64 3, .bool true, .string ⟨#[88]⟩, .bool false, .string ⟨#[97]⟩, .bool true, .string ⟨#[88]⟩, .bool true, .string ⟨#[89]⟩] 26)).alloc (.cells #[.string ⟨#[97, 108, 105, 99, 101]⟩, .string ⟨#[112]⟩, .int .i64 5, .bool true, .string ⟨#[88]⟩, .bool false, .string ⟨#[97]⟩, .bool true, .string ⟨#[88]⟩, .bool true, .string ⟨#[89]⟩] 26)) (([97, 108, 105, 99, 101], [112], (-1), (true, [88]), (false, [97]), (true, [88]), (true, [89])) : Atm) 26
    rwa [World.size_alloc, World.size_alloc, World.size_alloc] at this
  replace o_B := (o_B.next ((Since.refl _).alloc (.cells #[.string ⟨#[97, 108, 105, 99, 101]⟩, .string ⟨#[112]⟩, .int .i64 5, .bool true, .string ⟨#[88]⟩, .bool false, .string ⟨#[97]⟩, .bool true, .string ⟨#[88]⟩, .bool true, .string ⟨#[89]⟩] 26))).next ((Since.refl _).alloc (.cells #[.string ⟨#[97, 108, 105, 99, 101]⟩, .string ⟨#[112]⟩, .int .i64 (-1), .bool true, .string ⟨#[88]⟩, .bool false, .string ⟨#[97]⟩, .bool true, .string ⟨#[88]⟩, .bool true, .string ⟨#[89]⟩] 26))
  replace g_B := g_B.next ((Since.refl _).alloc (.cells #[.string ⟨#[97, 108, 105, 99, 101]⟩, .string ⟨#[112]⟩, .int .i64 (-1), .bool true, .string ⟨#[88]⟩, .bool false, .string ⟨#[97]⟩, .bool true, .string ⟨#[88]⟩, .bool true, .string ⟨#[89]⟩] 26))
  replace hE := hE.next hb; replace hS := hS.trans hb; replace x_B := x_B.next hb
  clear hb x_c0 x_c1 x_c2 x_c3 x_c4 x_c5 x_c6 x_c7 x_c8 x_c9 x_c10
  refine (nm_check_x _ hE).mono ?_
  rintro e w8 ⟨rfl, hb⟩
  replace hE := hE.next hb; replace hS := hS.trans hb; replace x_B := x_B.next hb; replace o_B := o_B.next hb; replace g_B := g_B.next hb; replace n_B := n_B.next hb
  obtain ⟨x_c0, x_c1, x_c2, x_c3, x_c4, x_c5, x_c6, x_c7, x_c8, x_c9, x_c10⟩ := x_B.all; obtain ⟨o_c0, o_c1, o_c2, o_c3, o_c4, o_c5, o_c6, o_c7, o_c8, o_c9, o_c10⟩ := o_B.all; obtain ⟨g_c0, g_c1, g_c2, g_c3, g_c4, g_c5, g_c6, g_c7, g_c8, g_c9, g_c10⟩ := g_B.all; obtain ⟨n_c0, n_c1, n_c2, n_c3, n_c4, n_c5, n_c6, n_c7, n_c8, n_c9, n_c10⟩ := n_B.all
  go_wp2_with (first
    | (go_at_call 21; first | ((with_reducible refine (nm_check_odd _ hE).mono ?_); rintro e w8 ⟨rfl, hb⟩; replace hE := hE.next hb; replace hS := hS.trans hb; replace x_B := x_B.next hb; replace o_B := o_B.next hb; replace g_B := g_B.next hb; replace n_B := n_B.next hb; replace x_c0 := hb.cell x_c0; replace x_c1 := hb.cell x_c1; replace x_c2 := hb.cell x_c2; replace x_c3 := hb.cell x_c3; replace x_c4 := hb.cell x_c4; replace x_c5 := hb.cell x_c5; replace x_c6 := hb.cell x_c6; replace x_c7 := hb.cell x_c7; replace x_c8 := hb.cell x_c8; replace x_c9 := hb.cell x_c9; replace x_c10 := hb.cell x_c10; replace o_c0 := hb.cell o_c0; replace o_c1 := hb.cell o_c1; replace o_c2 := hb.cell o_c2; replace o_c3 := hb.cell o_c3; replace o_c4 := hb.cell o_c4; replace o_c5 := hb.cell o_c5; replace o_c6 := hb.cell o_c6; replace o_c7 := hb.cell o_c7; replace o_c8 := hb.cell o_c8; replace o_c9 := hb.cell o_c9; replace o_c10 := hb.cell o_c10; replace g_c0 := hb.cell g_c0; replace g_c1 := hb.cell g_c1; replace g_c2 := hb.cell g_c2; replace g_c3 := hb.cell g_c3; replace g_c4 := hb.cell g_c4; replace g_c5 := hb.cell g_c5; replace g_c6 := hb.cell g_c6; replace g_c7 := hb.cell g_c7; replace g_c8 := hb.cell g_c8; replace g_c9 := hb.cell g_c9; replace g_c10 := hb.cell g_c10; replace n_c0 := hb.cell n_c0; replace n_c1 := hb.cell n_c1; replace n_c2 := hb.cell n_c2; replace n_c3 := hb.cell n_c3; replace n_c4 := hb.cell n_c4; replace n_c5 := hb.cell n_c5; replace n_c6 := hb.cell n_c6; replace n_c7 := hb.cell n_c7; replace n_c8 := hb.cell n_c8; replace n_c9 := hb.cell n_c9; replace n_c10 := hb.cell n_c10) | ((with_reducible refine (nm_check_big _ hE).mono ?_); rintro e w8 ⟨rfl, hb⟩; replace hE := hE.next hb; replace hS := hS.trans hb; replace x_B := x_B.next hb; replace o_B := o_B.next hb; replace g_B := g_B.next hb; replace n_B := n_B.next hb; replace x_c0 := hb.cell x_c0; replace x_c1 := hb.cell x_c1; replace x_c2 := hb.cell x_c2; replace x_c3 := hb.cell x_c3; replace x_c4 := hb.cell x_c4; replace x_c5 := hb.cell x_c5; replace x_c6 := hb.cell x_c6; replace x_c7 := hb.cell x_c7; replace x_c8 := hb.cell x_c8; replace x_c9 := hb.cell x_c9; replace x_c10 := hb.cell x_c10; replace o_c0 := hb.cell o_c0; replace o_c1 := hb.cell o_c1; replace o_c2 := hb.cell o_c2; replace o_c3 := hb.cell o_c3; replace o_c4 := hb.cell o_c4; replace o_c5 := hb.cell o_c5; replace o_c6 := hb.cell o_c6; replace o_c7 := hb.cell o_c7; replace o_c8 := hb.cell o_c8; replace o_c9 := hb.cell o_c9; replace o_c10 := hb.cell o_c10; replace g_c0 := hb.cell g_c0; replace g_c1 := hb.cell g_c1; replace g_c2 := hb.cell g_c2; replace g_c3 := hb.cell g_c3; replace g_c4 := hb.cell g_c4; replace g_c5 := hb.cell g_c5; replace g_c6 := hb.cell g_c6; replace g_c7 := hb.cell g_c7; replace g_c8 := hb.cell g_c8; replace g_c9 := hb.cell g_c9; replace g_c10 := hb.cell g_c10; replace n_c0 := hb.cell n_c0; replace n_c1 := hb.cell n_c1; replace n_c2 := hb.cell n_c2; replace n_c3 := hb.cell n_c3; replace n_c4 := hb.cell n_c4; replace n_c5 := hb.cell n_c5; replace n_c6 := hb.cell n_c6; replace n_c7 := hb.cell n_c7; replace n_c8 := hb.cell n_c8; replace n_c9 := hb.cell n_c9; replace n_c10 := hb.cell n_c10) | ((with_reducible refine (nm_check_non _ hE).mono ?_); rintro e w8 ⟨rfl, hb⟩; replace hE := hE.next hb; replace hS := hS.trans hb; replace x_B := x_B.next hb; replace o_B := o_B.next hb; replace g_B := g_B.next hb; replace n_B := n_B.next hb; replace x_c0 := hb.cell x_c0; replace x_c1 := hb.cell x_c1; replace x_c2 := hb.cell x_c2; replace x_c3 := hb.cell x_c3; replace x_c4 := hb.cell x_c4; replace x_c5 := hb.cell x_c5; replace x_c6 := hb.cell x_c6; replace x_c7 := hb.cell x_c7; replace x_c8 := hb.cell x_c8; replace x_c9 := hb.cell x_c9; replace x_c10 := hb.cell x_c10; replace o_c0 := hb.cell o_c0; replace o_c1 := hb.cell o_c1; replace o_c2 := hb.cell o_c2; replace o_c3 := hb.cell o_c3; replace o_c4 := hb.cell o_c4; replace o_c5 := hb.cell o_c5; replace o_c6 := hb.cell o_c6; replace o_c7 := hb.cell o_c7; replace o_c8 := hb.cell o_c8; replace o_c9 := hb.cell o_c9; replace o_c10 := hb.cell o_c10; replace g_c0 := hb.cell g_c0; replace g_c1 := hb.cell g_c1; replace g_c2 := hb.cell g_c2; replace g_c3 := hb.cell g_c3; replace g_c4 := hb.cell g_c4; replace g_c5 := hb.cell g_c5; replace g_c6 := hb.cell g_c6; replace g_c7 := hb.cell g_c7; replace g_c8 := hb.cell g_c8; replace g_c9 := hb.cell g_c9; replace g_c10 := hb.cell g_c10; replace n_c0 := hb.cell n_c0; replace n_c1 := hb.cell n_c1; replace n_c2 := hb.cell n_c2; replace n_c3 := hb.cell n_c3; replace n_c4 := hb.cell n_c4; replace n_c5 := hb.cell n_c5; replace n_c6 := hb.cell n_c6; replace n_c7 := hb.cell n_c7; replace n_c8 := hb.cell n_c8; replace n_c9 := hb.cell n_c9; replace n_c10 := hb.cell n_c10))
    | (go_at_call 28; first | ((with_reducible refine (nm_ground_x _ hE).mono ?_); rintro e w8 ⟨rfl, hb⟩; replace hE := hE.next hb; replace hS := hS.trans hb; replace x_B := x_B.next hb; replace o_B := o_B.next hb; replace g_B := g_B.next hb; replace n_B := n_B.next hb; replace x_c0 := hb.cell x_c0; replace x_c1 := hb.cell x_c1; replace x_c2 := hb.cell x_c2; replace x_c3 := hb.cell x_c3; replace x_c4 := hb.cell x_c4; replace x_c5 := hb.cell x_c5; replace x_c6 := hb.cell x_c6; replace x_c7 := hb.cell x_c7; replace x_c8 := hb.cell x_c8; replace x_c9 := hb.cell x_c9; replace x_c10 := hb.cell x_c10; replace o_c0 := hb.cell o_c0; replace o_c1 := hb.cell o_c1; replace o_c2 := hb.cell o_c2; replace o_c3 := hb.cell o_c3; replace o_c4 := hb.cell o_c4; replace o_c5 := hb.cell o_c5; replace o_c6 := hb.cell o_c6; replace o_c7 := hb.cell o_c7; replace o_c8 := hb.cell o_c8; replace o_c9 := hb.cell o_c9; replace o_c10 := hb.cell o_c10; replace g_c0 := hb.cell g_c0; replace g_c1 := hb.cell g_c1; replace g_c2 := hb.cell g_c2; replace g_c3 := hb.cell g_c3; replace g_c4 := hb.cell g_c4; replace g_c5 := hb.cell g_c5; replace g_c6 := hb.cell g_c6; replace g_c7 := hb.cell g_c7; replace g_c8 := hb.cell g_c8; replace g_c9 := hb.cell g_c9; replace g_c10 := hb.cell g_c10; replace n_c0 := hb.cell n_c0; replace n_c1 := hb.cell n_c1; replace n_c2 := hb.cell n_c2; replace n_c3 := hb.cell n_c3; replace n_c4 := hb.cell n_c4; replace n_c5 := hb.cell n_c5; replace n_c6 := hb.cell n_c6; replace n_c7 := hb.cell n_c7; replace n_c8 := hb.cell n_c8; replace n_c9 := hb.cell n_c9; replace n_c10 := hb.cell n_c10) | ((with_reducible refine (nm_ground_non _ hE).mono ?_); rintro e w8 ⟨rfl, hb⟩; replace hE := hE.next hb; replace hS := hS.trans hb; replace x_B := x_B.next hb; replace o_B := o_B.next hb; replace g_B := g_B.next hb; replace n_B := n_B.next hb; replace x_c0 := hb.cell x_c0; replace x_c1 := hb.cell x_c1; replace x_c2 := hb.cell x_c2; replace x_c3 := hb.cell x_c3; replace x_c4 := hb.cell x_c4; replace x_c5 := hb.cell x_c5; replace x_c6 := hb.cell x_c6; replace x_c7 := hb.cell x_c7; replace x_c8 := hb.cell x_c8; replace x_c9 := hb.cell x_c9; replace x_c10 := hb.cell x_c10; replace o_c0 := hb.cell o_c0; replace o_c1 := hb.cell o_c1; replace o_c2 := hb.cell o_c2; replace o_c3 := hb.cell o_c3; replace o_c4 := hb.cell o_c4; replace o_c5 := hb.cell o_c5; replace o_c6 := hb.cell o_c6; replace o_c7 := hb.cell o_c7; replace o_c8 := hb.cell o_c8; replace o_c9 := hb.cell o_c9; replace o_c10 := hb.cell o_c10; replace g_c0 := hb.cell g_c0; replace g_c1 := hb.cell g_c1; replace g_c2 := hb.cell g_c2; replace g_c3 := hb.cell g_c3; replace g_c4 := hb.cell g_c4; replace g_c5 := hb.cell g_c5; replace g_c6 := hb.cell g_c6; replace g_c7 := hb.cell g_c7; replace g_c8 := hb.cell g_c8; replace g_c9 := hb.cell g_c9; replace g_c10 := hb.cell g_c10; replace n_c0 := hb.cell n_c0; replace n_c1 := hb.cell n_c1; replace n_c2 := hb.cell n_c2; replace n_c3 := hb.cell n_c3; replace n_c4 := hb.cell n_c4; replace n_c5 := hb.cell n_c5; replace n_c6 := hb.cell n_c6; replace n_c7 := hb.cell n_c7; replace n_c8 := hb.cell n_c8; replace n_c9 := hb.cell n_c9; replace n_c10 := hb.cell n_c10)))
  refine (kA_a _ _ _ 0 _ _ ?_).mono ?_
  · rw [World.cell?_alloc_new]; rfl
  rintro e w9 ⟨rfl, hb⟩
  replace hb := Since.trans ((Since.refl _).alloc _) hb
  replace hE := hE.next hb; replace hS := hS.trans hb; replace x_B := x_B.next hb; replace o_B := o_B.next hb; replace g_B := g_B.next hb; replace n_B := n_B.next hb; replace x_c0 := hb.cell x_c0; replace x_c1 := hb.cell x_c1; replace x_c2 := hb.cell x_c2; replace x_c3 := hb.cell x_c3; replace x_c4 := hb.cell x_c4; replace x_c5 := hb.cell x_c5; replace x_c6 := hb.cell x_c6; replace x_c7 := hb.cell x_c7; replace x_c8 := hb.cell x_c8; replace x_c9 := hb.cell x_c9; replace x_c10 := hb.cell x_c10; replace o_c0 := hb.cell o_c0; replace o_c1 := hb.cell o_c1; replace o_c2 := hb.cell o_c2; replace o_c3 := hb.cell o_c3; replace o_c4 := hb.cell o_c4; replace o_c5 := hb.cell o_c5; replace o_c6 := hb.cell o_c6; replace o_c7 := hb.cell o_c7; replace o_c8 := hb.cell o_c8; replace o_c9 := hb.cell o_c9; replace o_c10 := hb.cell o_c10; replace g_c0 := hb.cell g_c0; replace g_c1 := hb.cell g_c1; replace g_c2 := hb.cell g_c2; replace g_c3 := hb.cell g_c3; replace g_c4 := hb.cell g_c4; replace g_c5 := hb.cell g_c5; replace g_c6 := hb.cell g_c6; replace g_c7 := hb.cell g_c7; replace g_c8 := hb.cell g_c8; replace g_c9 := hb.cell g_c9; replace g_c10 := hb.cell g_c10; replace n_c0 := hb.cell n_c0; replace n_c1 := hb.cell n_c1; replace n_c2 := hb.cell n_c2; replace n_c3 := hb.cell n_c3; replace n_c4 := hb.cell n_c4; replace n_c5 := hb.cell n_c5; replace n_c6 := hb.cell n_c6; replace n_c7 := hb.cell n_c7; replace n_c8 := hb.cell n_c8; replace n_c9 := hb.cell n_c9; replace n_c10 := hb.cell n_c10
  go_wp2_with fail
  refine (nm_ground_one _ hE).mono ?_
  rintro e w10 ⟨rfl, hb⟩
  replace hE := hE.next hb; replace hS := hS.trans hb; replace x_B := x_B.next hb; replace o_B := o_B.next hb; replace g_B := g_B.next hb; replace n_B := n_B.next hb; replace x_c0 := hb.cell x_c0; replace x_c1 := hb.cell x_c1; replace x_c2 := hb.cell x_c2; replace x_c3 := hb.cell x_c3; replace x_c4 := hb.cell x_c4; replace x_c5 := hb.cell x_c5; replace x_c6 := hb.cell x_c6; replace x_c7 := hb.cell x_c7; replace x_c8 := hb.cell x_c8; replace x_c9 := hb.cell x_c9; replace x_c10 := hb.cell x_c10; replace o_c0 := hb.cell o_c0; replace o_c1 := hb.cell o_c1; replace o_c2 := hb.cell o_c2; replace o_c3 := hb.cell o_c3; replace o_c4 := hb.cell o_c4; replace o_c5 := hb.cell o_c5; replace o_c6 := hb.cell o_c6; replace o_c7 := hb.cell o_c7; replace o_c8 := hb.cell o_c8; replace o_c9 := hb.cell o_c9; replace o_c10 := hb.cell o_c10; replace g_c0 := hb.cell g_c0; replace g_c1 := hb.cell g_c1; replace g_c2 := hb.cell g_c2; replace g_c3 := hb.cell g_c3; replace g_c4 := hb.cell g_c4; replace g_c5 := hb.cell g_c5; replace g_c6 := hb.cell g_c6; replace g_c7 := hb.cell g_c7; replace g_c8 := hb.cell g_c8; replace g_c9 := hb.cell g_c9; replace g_c10 := hb.cell g_c10; replace n_c0 := hb.cell n_c0; replace n_c1 := hb.cell n_c1; replace n_c2 := hb.cell n_c2; replace n_c3 := hb.cell n_c3; replace n_c4 := hb.cell n_c4; replace n_c5 := hb.cell n_c5; replace n_c6 := hb.cell n_c6; replace n_c7 := hb.cell n_c7; replace n_c8 := hb.cell n_c8; replace n_c9 := hb.cell n_c9; replace n_c10 := hb.cell n_c10
  go_wp2_with fail
  refine (nm_vars_x _).mono ?_
  rintro e w11 ⟨s1, rfl, hown1, hb⟩
  replace hE := hE.next hb; replace hS := hS.trans hb; replace x_B := x_B.next hb; replace o_B := o_B.next hb; replace g_B := g_B.next hb; replace n_B := n_B.next hb; replace x_c0 := hb.cell x_c0; replace x_c1 := hb.cell x_c1; replace x_c2 := hb.cell x_c2; replace x_c3 := hb.cell x_c3; replace x_c4 := hb.cell x_c4; replace x_c5 := hb.cell x_c5; replace x_c6 := hb.cell x_c6; replace x_c7 := hb.cell x_c7; replace x_c8 := hb.cell x_c8; replace x_c9 := hb.cell x_c9; replace x_c10 := hb.cell x_c10; replace o_c0 := hb.cell o_c0; replace o_c1 := hb.cell o_c1; replace o_c2 := hb.cell o_c2; replace o_c3 := hb.cell o_c3; replace o_c4 := hb.cell o_c4; replace o_c5 := hb.cell o_c5; replace o_c6 := hb.cell o_c6; replace o_c7 := hb.cell o_c7; replace o_c8 := hb.cell o_c8; replace o_c9 := hb.cell o_c9; replace o_c10 := hb.cell o_c10; replace g_c0 := hb.cell g_c0; replace g_c1 := hb.cell g_c1; replace g_c2 := hb.cell g_c2; replace g_c3 := hb.cell g_c3; replace g_c4 := hb.cell g_c4; replace g_c5 := hb.cell g_c5; replace g_c6 := hb.cell g_c6; replace g_c7 := hb.cell g_c7; replace g_c8 := hb.cell g_c8; replace g_c9 := hb.cell g_c9; replace g_c10 := hb.cell g_c10; replace n_c0 := hb.cell n_c0; replace n_c1 := hb.cell n_c1; replace n_c2 := hb.cell n_c2; replace n_c3 := hb.cell n_c3; replace n_c4 := hb.cell n_c4; replace n_c5 := hb.cell n_c5; replace n_c6 := hb.cell n_c6; replace n_c7 := hb.cell n_c7; replace n_c8 := hb.cell n_c8; replace n_c9 := hb.cell n_c9; replace n_c10 := hb.cell n_c10
  go_wp2_with fail
  refine (same_self s1 _ [[88], [89]] _ ((row_of_own hown1).next ((Since.refl _).alloc _)) (row_lit [[88], [89]] w11 9) (by decide)).mono ?_
  rintro e w12 ⟨rfl, hb⟩
  replace hb := Since.trans ((Since.refl _).alloc _) hb
  replace hE := hE.next hb; replace hS := hS.trans hb; replace x_B := x_B.next hb; replace o_B := o_B.next hb; replace g_B := g_B.next hb; replace n_B := n_B.next hb; replace x_c0 := hb.cell x_c0; replace x_c1 := hb.cell x_c1; replace x_c2 := hb.cell x_c2; replace x_c3 := hb.cell x_c3; replace x_c4 := hb.cell x_c4; replace x_c5 := hb.cell x_c5; replace x_c6 := hb.cell x_c6; replace x_c7 := hb.cell x_c7; replace x_c8 := hb.cell x_c8; replace x_c9 := hb.cell x_c9; replace x_c10 := hb.cell x_c10; replace o_c0 := hb.cell o_c0; replace o_c1 := hb.cell o_c1; replace o_c2 := hb.cell o_c2; replace o_c3 := hb.cell o_c3; replace o_c4 := hb.cell o_c4; replace o_c5 := hb.cell o_c5; replace o_c6 := hb.cell o_c6; replace o_c7 := hb.cell o_c7; replace o_c8 := hb.cell o_c8; replace o_c9 := hb.cell o_c9; replace o_c10 := hb.cell o_c10; replace g_c0 := hb.cell g_c0; replace g_c1 := hb.cell g_c1; replace g_c2 := hb.cell g_c2; replace g_c3 := hb.cell g_c3; replace g_c4 := hb.cell g_c4; replace g_c5 := hb.cell g_c5; replace g_c6 := hb.cell g_c6; replace g_c7 := hb.cell g_c7; replace g_c8 := hb.cell g_c8; replace g_c9 := hb.cell g_c9; replace g_c10 := hb.cell g_c10; replace n_c0 := hb.cell n_c0; replace n_c1 := hb.cell n_c1; replace n_c2 := hb.cell n_c2; replace n_c3 := hb.cell n_c3; replace n_c4 := hb.cell n_c4; replace n_c5 := hb.cell n_c5; replace n_c6 := hb.cell n_c6; replace n_c7 := hb.cell n_c7; replace n_c8 := hb.cell n_c8; replace n_c9 := hb.cell n_c9; replace n_c10 := hb.cell n_c10
  go_wp2_with fail
  refine (nm_consts_x _).mono ?_
  rintro e w13 ⟨s2, rfl, hown2, hb⟩
  replace hE := hE.next hb; replace hS := hS.trans hb; replace x_B := x_B.next hb; replace o_B := o_B.next hb; replace g_B := g_B.next hb; replace n_B := n_B.next hb; replace x_c0 := hb.cell x_c0; replace x_c1 := hb.cell x_c1; replace x_c2 := hb.cell x_c2; replace x_c3 := hb.cell x_c3; replace x_c4 := hb.cell x_c4; replace x_c5 := hb.cell x_c5; replace x_c6 := hb.cell x_c6; replace x_c7 := hb.cell x_c7; replace x_c8 := hb.cell x_c8; replace x_c9 := hb.cell x_c9; replace x_c10 := hb.cell x_c10; replace o_c0 := hb.cell o_c0; replace o_c1 := hb.cell o_c1; replace o_c2 := hb.cell o_c2; replace o_c3 := hb.cell o_c3; replace o_c4 := hb.cell o_c4; replace o_c5 := hb.cell o_c5; replace o_c6 := hb.cell o_c6; replace o_c7 := hb.cell o_c7; replace o_c8 := hb.cell o_c8; replace o_c9 := hb.cell o_c9; replace o_c10 := hb.cell o_c10; replace g_c0 := hb.cell g_c0; replace g_c1 := hb.cell g_c1; replace g_c2 := hb.cell g_c2; replace g_c3 := hb.cell g_c3; replace g_c4 := hb.cell g_c4; replace g_c5 := hb.cell g_c5; replace g_c6 := hb.cell g_c6; replace g_c7 := hb.cell g_c7; replace g_c8 := hb.cell g_c8; replace g_c9 := hb.cell g_c9; replace g_c10 := hb.cell g_c10; replace n_c0 := hb.cell n_c0; replace n_c1 := hb.cell n_c1; replace n_c2 := hb.cell n_c2; replace n_c3 := hb.cell n_c3; replace n_c4 := hb.cell n_c4; replace n_c5 := hb.cell n_c5; replace n_c6 := hb.cell n_c6; replace n_c7 := hb.cell n_c7; replace n_c8 := hb.cell n_c8; replace n_c9 := hb.cell n_c9; replace n_c10 := hb.cell n_c10
  go_wp2_with fail
  refine (same_self s2 _ [[97]] _ ((row_of_own hown2).next ((Since.refl _).alloc _)) (row_lit [[97]] w13 9) (by decide)).mono ?_
  rintro e w14 ⟨rfl, hb⟩
  replace hb := Since.trans ((Since.refl _).alloc _) hb
  replace hE := hE.next hb; replace hS := hS.trans hb; replace x_B := x_B.next hb; replace o_B := o_B.next hb; replace g_B := g_B.next hb; replace n_B := n_B.next hb; replace x_c0 := hb.cell x_c0; replace x_c1 := hb.cell x_c1; replace x_c2 := hb.cell x_c2; replace x_c3 := hb.cell x_c3; replace x_c4 := hb.cell x_c4; replace x_c5 := hb.cell x_c5; replace x_c6 := hb.cell x_c6; replace x_c7 := hb.cell x_c7; replace x_c8 := hb.cell x_c8; replace x_c9 := hb.cell x_c9; replace x_c10 := hb.cell x_c10; replace o_c0 := hb.cell o_c0; replace o_c1 := hb.cell o_c1; replace o_c2 := hb.cell o_c2; replace o_c3 := hb.cell o_c3; replace o_c4 := hb.cell o_c4; replace o_c5 := hb.cell o_c5; replace o_c6 := hb.cell o_c6; replace o_c7 := hb.cell o_c7; replace o_c8 := hb.cell o_c8; replace o_c9 := hb.cell o_c9; replace o_c10 := hb.cell o_c10; replace g_c0 := hb.cell g_c0; replace g_c1 := hb.cell g_c1; replace g_c2 := hb.cell g_c2; replace g_c3 := hb.cell g_c3; replace g_c4 := hb.cell g_c4; replace g_c5 := hb.cell g_c5; replace g_c6 := hb.cell g_c6; replace g_c7 := hb.cell g_c7; replace g_c8 := hb.cell g_c8; replace g_c9 := hb.cell g_c9; replace g_c10 := hb.cell g_c10; replace n_c0 := hb.cell n_c0; replace n_c1 := hb.cell n_c1; replace n_c2 := hb.cell n_c2; replace n_c3 := hb.cell n_c3; replace n_c4 := hb.cell n_c4; replace n_c5 := hb.cell n_c5; replace n_c6 := hb.cell n_c6; replace n_c7 := hb.cell n_c7; replace n_c8 := hb.cell n_c8; replace n_c9 := hb.cell n_c9; replace n_c10 := hb.cell n_c10
  go_wp2_with fail
  refine (nm_vars_non _).mono ?_
  rintro e w15 ⟨s3, rfl, hown3, hb⟩
  obtain ⟨a3, c3, rfl⟩ := (row_of_own hown3).len
  replace hE := hE.next hb; replace hS := hS.trans hb; replace x_B := x_B.next hb; replace o_B := o_B.next hb; replace g_B := g_B.next hb; replace n_B := n_B.next hb; replace x_c0 := hb.cell x_c0; replace x_c1 := hb.cell x_c1; replace x_c2 := hb.cell x_c2; replace x_c3 := hb.cell x_c3; replace x_c4 := hb.cell x_c4; replace x_c5 := hb.cell x_c5; replace x_c6 := hb.cell x_c6; replace x_c7 := hb.cell x_c7; replace x_c8 := hb.cell x_c8; replace x_c9 := hb.cell x_c9; replace x_c10 := hb.cell x_c10; replace o_c0 := hb.cell o_c0; replace o_c1 := hb.cell o_c1; replace o_c2 := hb.cell o_c2; replace o_c3 := hb.cell o_c3; replace o_c4 := hb.cell o_c4; replace o_c5 := hb.cell o_c5; replace o_c6 := hb.cell o_c6; replace o_c7 := hb.cell o_c7; replace o_c8 := hb.cell o_c8; replace o_c9 := hb.cell o_c9; replace o_c10 := hb.cell o_c10; replace g_c0 := hb.cell g_c0; replace g_c1 := hb.cell g_c1; replace g_c2 := hb.cell g_c2; replace g_c3 := hb.cell g_c3; replace g_c4 := hb.cell g_c4; replace g_c5 := hb.cell g_c5; replace g_c6 := hb.cell g_c6; replace g_c7 := hb.cell g_c7; replace g_c8 := hb.cell g_c8; replace g_c9 := hb.cell g_c9; replace g_c10 := hb.cell g_c10; replace n_c0 := hb.cell n_c0; replace n_c1 := hb.cell n_c1; replace n_c2 := hb.cell n_c2; replace n_c3 := hb.cell n_c3; replace n_c4 := hb.cell n_c4; replace n_c5 := hb.cell n_c5; replace n_c6 := hb.cell n_c6; replace n_c7 := hb.cell n_c7; replace n_c8 := hb.cell n_c8; replace n_c9 := hb.cell n_c9; replace n_c10 := hb.cell n_c10
  go_wp2_with fail
  refine (nm_text_non _).mono ?_
  rintro e w16 ⟨rfl, hb⟩
  replace hE := hE.next hb; replace hS := hS.trans hb; replace x_B := x_B.next hb; replace o_B := o_B.next hb; replace g_B := g_B.next hb; replace n_B := n_B.next hb; replace x_c0 := hb.cell x_c0; replace x_c1 := hb.cell x_c1; replace x_c2 := hb.cell x_c2; replace x_c3 := hb.cell x_c3; replace x_c4 := hb.cell x_c4; replace x_c5 := hb.cell x_c5; replace x_c6 := hb.cell x_c6; replace x_c7 := hb.cell x_c7; replace x_c8 := hb.cell x_c8; replace x_c9 := hb.cell x_c9; replace x_c10 := hb.cell x_c10; replace o_c0 := hb.cell o_c0; replace o_c1 := hb.cell o_c1; replace o_c2 := hb.cell o_c2; replace o_c3 := hb.cell o_c3; replace o_c4 := hb.cell o_c4; replace o_c5 := hb.cell o_c5; replace o_c6 := hb.cell o_c6; replace o_c7 := hb.cell o_c7; replace o_c8 := hb.cell o_c8; replace o_c9 := hb.cell o_c9; replace o_c10 := hb.cell o_c10; replace g_c0 := hb.cell g_c0; replace g_c1 := hb.cell g_c1; replace g_c2 := hb.cell g_c2; replace g_c3 := hb.cell g_c3; replace g_c4 := hb.cell g_c4; replace g_c5 := hb.cell g_c5; replace g_c6 := hb.cell g_c6; replace g_c7 := hb.cell g_c7; replace g_c8 := hb.cell g_c8; replace g_c9 := hb.cell g_c9; replace g_c10 := hb.cell g_c10; replace n_c0 := hb.cell n_c0; replace n_c1 := hb.cell n_c1; replace n_c2 := hb.cell n_c2; replace n_c3 := hb.cell n_c3; replace n_c4 := hb.cell n_c4; replace n_c5 := hb.cell n_c5; replace n_c6 := hb.cell n_c6; replace n_c7 := hb.cell n_c7; replace n_c8 := hb.cell n_c8; replace n_c9 := hb.cell n_c9; replace n_c10 := hb.cell n_c10
  go_wp2_with fail
  refine (nm_text_big _).mono ?_
  rintro e w17 ⟨rfl, hb⟩
  replace hE := hE.next hb; replace hS := hS.trans hb
  go_wp2_with fail
  refine (kC_any [57] _).mono ?_
  rintro e w18 ⟨rfl, hb⟩
  replace hE := hE.next hb; replace hS := hS.trans hb
  go_wp2_with fail
  refine (nm_term_9 _ hE).mono ?_
  rintro e w19 ⟨rfl, hb⟩
  replace hE := hE.next hb; replace hS := hS.trans hb
  go_wp2_with fail
  refine (kC_any [88] _).mono ?_
  rintro e w20 ⟨rfl, hb⟩
  replace hE := hE.next hb; replace hS := hS.trans hb
  go_wp2_with fail
  refine (nm_term_X _ hE).mono ?_
  rintro e w21 ⟨rfl, hb⟩
  replace hE := hE.next hb; replace hS := hS.trans hb
  go_wp2_with fail
  refine (nm_term_0 _ hE).mono ?_
  rintro e w22 ⟨rfl, hb⟩
  replace hS := hS.trans hb
  go_wp2_with fail
  go_ret
  exact ⟨rfl, hS⟩
end Go.Proofs.YtapkafdlbocmmaaDoor
