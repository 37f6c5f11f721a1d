/- TermTexts returns true at every atom and term, in every world in which the library's table strings.asciiSpace stands. -/
import Derived.Test.YtapkafdlbocmmaaDoorLawApart
namespace Go.Proofs.YtapkafdlbocmmaaDoor
open Go.RowKit
attribute [local go_sem ↓] run_atomEq run_termEq'

/-- 's[:n]' of a text. -/
theorem run_cut {S F T : List UInt8} (h : S = F ++ T) (W : World) : (Instr.slice 9 (.string ⟨S.toArray⟩) none (some (.int .i64 F.length)) none).run Tryd.prog W = .ok (.string ⟨F.toArray⟩) W := by
  have hle : F.length ≤ S.length := by rw [h]; simp
  have e := ext_bytes S 0 F.length
  rw [List.drop_zero, show S.take F.length = F from by rw [h, List.take_left']; rfl] at e
  rw [← e]
  have hle' : (F.length : Int) ≤ (S.length : Int) := by omega
  clear h e
  go_simp
/-- What is left of a loop that looks for the variables in order. -/
theorem sub_hit {x : List UInt8} {V : List (List UInt8)} {t : Tm} {L : List Tm} (h : (((x :: V).map fun y => ((true, y) : Tm))).Sublist (t :: L)) (he : eqT t (true, x) = true) : (V.map fun y => ((true, y) : Tm)).Sublist L := by
  rw [eqT_iff] at he
  subst he
  rw [List.map_cons] at h
  exact List.cons_sublist_cons.1 h
theorem sub_miss {x : List UInt8} {V : List (List UInt8)} {t : Tm} {L : List Tm} (h : (((x :: V).map fun y => ((true, y) : Tm))).Sublist (t :: L)) (he : eqT t (true, x) = false) : ((x :: V).map fun y => ((true, y) : Tm)).Sublist L := by
  rw [List.map_cons] at h ⊢
  cases h with
  | cons _ h => exact h
  | cons_cons _ h => rw [eqT_self] at he; cases he
theorem sub_none {t : Tm} {L : List Tm} : (([] : List (List UInt8)).map fun y => ((true, y) : Tm)).Sublist (t :: L) → (([] : List (List UInt8)).map fun y => ((true, y) : Tm)).Sublist L := fun _ => by simp

set_option maxHeartbeats 4000000 in
set_option maxRecDepth 100000 in
theorem texts_0 (a_s a_p : List UInt8) (a_v0 a_v1 a_v2 a_v3 : Bool) (a_l0 a_l1 a_l2 a_l3 : List UInt8) (xv : Bool) (xl : List UInt8) (w : World) (hE : Env w) (fa : FitsA ((a_s, a_p, (0 : Int), (a_v0, a_l0), (a_v1, a_l1), (a_v2, a_l2), (a_v3, a_l3)) : Atm)) (fx : xl.length ≤ 300) (la : lightB ((a_s, a_p, (0 : Int), (a_v0, a_l0), (a_v1, a_l1), (a_v2, a_l2), (a_v3, a_l3)) : Atm) = true) (ka : (checkA ((a_s, a_p, (0 : Int), (a_v0, a_l0), (a_v1, a_l1), (a_v2, a_l2), (a_v3, a_l3)) : Atm) != 0) = false) (kx : termB (xv, xl) = true) :
    Calls Tryd.prog 5 #[.agg #[.string ⟨a_s.toArray⟩, .string ⟨a_p.toArray⟩, .int .i64 0, .bool a_v0, .string ⟨a_l0.toArray⟩, .bool a_v1, .string ⟨a_l1.toArray⟩, .bool a_v2, .string ⟨a_l2.toArray⟩, .bool a_v3, .string ⟨a_l3.toArray⟩], .agg #[.bool xv, .string ⟨xl.toArray⟩]] w fun e w' => e = .returned (.bool true) ∧ Since w w' := by
  have hS : Since w ((w.alloc (.cells #[.string ⟨a_s.toArray⟩, .string ⟨a_p.toArray⟩, .int .i64 0, .bool a_v0, .string ⟨a_l0.toArray⟩, .bool a_v1, .string ⟨a_l1.toArray⟩, .bool a_v2, .string ⟨a_l2.toArray⟩, .bool a_v3, .string ⟨a_l3.toArray⟩] 26)).alloc (.cells #[.bool xv, .string ⟨xl.toArray⟩] 23)) := ((Since.refl _).alloc _).alloc _
  have a_B : Box ((w.alloc (.cells #[.string ⟨a_s.toArray⟩, .string ⟨a_p.toArray⟩, .int .i64 0, .bool a_v0, .string ⟨a_l0.toArray⟩, .bool a_v1, .string ⟨a_l1.toArray⟩, .bool a_v2, .string ⟨a_l2.toArray⟩, .bool a_v3, .string ⟨a_l3.toArray⟩] 26)).alloc (.cells #[.bool xv, .string ⟨xl.toArray⟩] 23)) w.heap.size ((a_s, a_p, (0 : Int), (a_v0, a_l0), (a_v1, a_l1), (a_v2, a_l2), (a_v3, a_l3)) : Atm) := (box_new w ((a_s, a_p, (0 : Int), (a_v0, a_l0), (a_v1, a_l1), (a_v2, a_l2), (a_v3, a_l3)) : Atm) _).next ((Since.refl _).alloc _)
  have x_c0 : ((w.alloc (.cells #[.string ⟨a_s.toArray⟩, .string ⟨a_p.toArray⟩, .int .i64 0, .bool a_v0, .string ⟨a_l0.toArray⟩, .bool a_v1, .string ⟨a_l1.toArray⟩, .bool a_v2, .string ⟨a_l2.toArray⟩, .bool a_v3, .string ⟨a_l3.toArray⟩] 26)).alloc (.cells #[.bool xv, .string ⟨xl.toArray⟩] 23)).cell? ⟨w.heap.size + 1, 0, none⟩ = some (.bool xv) := by
    have := World.cell?_alloc_new (w.alloc (.cells #[.string ⟨a_s.toArray⟩, .string ⟨a_p.toArray⟩, .int .i64 0, .bool a_v0, .string ⟨a_l0.toArray⟩, .bool a_v1, .string ⟨a_l1.toArray⟩, .bool a_v2, .string ⟨a_l2.toArray⟩, .bool a_v3, .string ⟨a_l3.toArray⟩] 26)) #[.bool xv, .string ⟨xl.toArray⟩] 23 0
    rw [World.size_alloc] at this; rw [this]; rfl
  have x_c1 : ((w.alloc (.cells #[.string ⟨a_s.toArray⟩, .string ⟨a_p.toArray⟩, .int .i64 0, .bool a_v0, .string ⟨a_l0.toArray⟩, .bool a_v1, .string ⟨a_l1.toArray⟩, .bool a_v2, .string ⟨a_l2.toArray⟩, .bool a_v3, .string ⟨a_l3.toArray⟩] 26)).alloc (.cells #[.bool xv, .string ⟨xl.toArray⟩] 23)).cell? ⟨w.heap.size + 1, 1, none⟩ = some (.string ⟨xl.toArray⟩) := by
    have := World.cell?_alloc_new (w.alloc (.cells #[.string ⟨a_s.toArray⟩, .string ⟨a_p.toArray⟩, .int .i64 0, .bool a_v0, .string ⟨a_l0.toArray⟩, .bool a_v1, .string ⟨a_l1.toArray⟩, .bool a_v2, .string ⟨a_l2.toArray⟩, .bool a_v3, .string ⟨a_l3.toArray⟩] 26)) #[.bool xv, .string ⟨xl.toArray⟩] 23 1
    rw [World.size_alloc] at this; rw [this]; rfl
  obtain ⟨a_c0, a_c1, a_c2, a_c3, a_c4, a_c5, a_c6, a_c7, a_c8, a_c9, a_c10⟩ := a_B.all
  replace hE := hE.next hS
  have HFA := Lib.hid fa
  have hLa := light_of la
  have HLA := Lib.hid hLa
  have hX : (xl.length : Int) ≤ 300 := by omega
  obtain ⟨F, hF⟩ : ∃ F, Hid (F = frontA ((a_s, a_p, (0 : Int), (a_v0, a_l0), (a_v1, a_l1), (a_v2, a_l2), (a_v3, a_l3)) : Atm)) := ⟨_, rfl⟩
  obtain ⟨U, hU⟩ : ∃ U, Hid (U = a_s ++ [32, 115, 97, 121, 115, 32]) := ⟨a_s ++ [32, 115, 97, 121, 115, 32], rfl⟩
  have c1 : ByteArray.mk a_s.toArray ++ ByteArray.mk #[32, 115, 97, 121, 115, 32] = ByteArray.mk U.toArray := by rw [hU.out]; exact cat_bytes a_s [32, 115, 97, 121, 115, 32]
  have c2 : ByteArray.mk U.toArray ++ ByteArray.mk a_p.toArray = ByteArray.mk F.toArray := by rw [hU.out, hF.out, cat_bytes, frontA, List.append_assoc]
  have f1 : a_s.length ≤ 300 := hLa.1
  have f2 : a_p.length ≤ 300 := hLa.2.1
  have hUl : U.length ≤ 400 := by rw [hU.out]; simp; omega
  have hFl : F.length ≤ 800 := by
    rw [hF.out]; show (a_s ++ ([32, 115, 97, 121, 115, 32] ++ a_p)).length ≤ 800
    simp; omega
  obtain ⟨S, hS1⟩ : ∃ S, Hid (S = textA ((a_s, a_p, (0 : Int), (a_v0, a_l0), (a_v1, a_l1), (a_v2, a_l2), (a_v3, a_l3)) : Atm)) := ⟨_, rfl⟩
  have hSl : S.length ≤ 3000 := by rw [hS1.out]; exact text_len hLa (by decide)
  obtain ⟨T, hT⟩ : ∃ T, Hid (S = F ++ T) := ⟨_, by show _ = _; rw [hS1.out, textA, hF.out]⟩
  have hlt : decide ((S.length : Int) < (F.length : Int)) = false := decide_eq_false (by rw [hT.out]; simp; omega)
  have hcut := run_cut hT.out
  have HTA : Hid (∀ W, Calls Tryd.prog 23 #[.agg #[.string ⟨a_s.toArray⟩, .string ⟨a_p.toArray⟩, .int .i64 0, .bool a_v0, .string ⟨a_l0.toArray⟩, .bool a_v1, .string ⟨a_l1.toArray⟩, .bool a_v2, .string ⟨a_l2.toArray⟩, .bool a_v3, .string ⟨a_l3.toArray⟩]] W fun e w' => e = .returned (.string ⟨S.toArray⟩) ∧ Since W w') := by
    intro W; rw [hS1.out]; exact text_any a_s a_p (0 : Int) a_v0 a_v1 a_v2 a_v3 a_l0 a_l1 a_l2 a_l3 W HLA.out
  have heF : (S == F) = true := by rw [beq_iff_eq, hS1.out, hF.out, textA, if_pos (by show (min (max (0 : Int) 0) 4).toNat = 0; decide), List.append_nil]
  have hFS : F.length ≤ S.length := by rw [hT.out]; simp
  have h300 : decide ((300 : Int) < (xl.length : Int)) = false := decide_eq_false (by omega)
  clear fa hLa
  go_enter Tryd.func5, Tryd.ntmps5
  go_wp2_with (first
    | (go_at_call 18; refine (lives03_any _ hE).mono ?_; rintro e w1 ⟨rfl, hb⟩; replace hE := hE.next hb; replace hS := hS.trans hb; replace a_B := a_B.next hb; replace a_c0 := hb.cell a_c0; replace a_c1 := hb.cell a_c1; replace a_c2 := hb.cell a_c2; replace a_c3 := hb.cell a_c3; replace a_c4 := hb.cell a_c4; replace a_c5 := hb.cell a_c5; replace a_c6 := hb.cell a_c6; replace a_c7 := hb.cell a_c7; replace a_c8 := hb.cell a_c8; replace a_c9 := hb.cell a_c9; replace a_c10 := hb.cell a_c10; replace x_c0 := hb.cell x_c0; replace x_c1 := hb.cell x_c1)
    | (go_at_call 12; ((with_reducible refine (light_any a_s a_p (0 : Int) a_v0 a_v1 a_v2 a_v3 a_l0 a_l1 a_l2 a_l3 _).mono ?_); rintro e w1 ⟨rfl, hb⟩; rw [la]; replace hE := hE.next hb; replace hS := hS.trans hb; replace a_B := a_B.next hb; replace a_c0 := hb.cell a_c0; replace a_c1 := hb.cell a_c1; replace a_c2 := hb.cell a_c2; replace a_c3 := hb.cell a_c3; replace a_c4 := hb.cell a_c4; replace a_c5 := hb.cell a_c5; replace a_c6 := hb.cell a_c6; replace a_c7 := hb.cell a_c7; replace a_c8 := hb.cell a_c8; replace a_c9 := hb.cell a_c9; replace a_c10 := hb.cell a_c10; replace x_c0 := hb.cell x_c0; replace x_c1 := hb.cell x_c1))
    | (go_at_call 21; ((with_reducible refine (check_any a_s a_p (0 : Int) a_v0 a_v1 a_v2 a_v3 a_l0 a_l1 a_l2 a_l3 _ HFA.out hE).mono ?_); rintro e w1 ⟨rfl, hb⟩; replace hE := hE.next hb; replace hS := hS.trans hb; replace a_B := a_B.next hb; replace a_c0 := hb.cell a_c0; replace a_c1 := hb.cell a_c1; replace a_c2 := hb.cell a_c2; replace a_c3 := hb.cell a_c3; replace a_c4 := hb.cell a_c4; replace a_c5 := hb.cell a_c5; replace a_c6 := hb.cell a_c6; replace a_c7 := hb.cell a_c7; replace a_c8 := hb.cell a_c8; replace a_c9 := hb.cell a_c9; replace a_c10 := hb.cell a_c10; replace x_c0 := hb.cell x_c0; replace x_c1 := hb.cell x_c1))
    | (go_at_call 22; ((with_reducible refine (term_any xv xl _ (by unfold maxLen; omega) hE).mono ?_); rintro e w1 ⟨rfl, hb⟩; rw [kx]; replace hE := hE.next hb; replace hS := hS.trans hb; replace a_B := a_B.next hb; replace a_c0 := hb.cell a_c0; replace a_c1 := hb.cell a_c1; replace a_c2 := hb.cell a_c2; replace a_c3 := hb.cell a_c3; replace a_c4 := hb.cell a_c4; replace a_c5 := hb.cell a_c5; replace a_c6 := hb.cell a_c6; replace a_c7 := hb.cell a_c7; replace a_c8 := hb.cell a_c8; replace a_c9 := hb.cell a_c9; replace a_c10 := hb.cell a_c10; replace x_c0 := hb.cell x_c0; replace x_c1 := hb.cell x_c1))
    | (go_at_call 23; ((with_reducible refine (HTA.out _).mono ?_); rintro e w1 ⟨rfl, hb⟩; replace hE := hE.next hb; replace hS := hS.trans hb; replace a_B := a_B.next hb; replace a_c0 := hb.cell a_c0; replace a_c1 := hb.cell a_c1; replace a_c2 := hb.cell a_c2; replace a_c3 := hb.cell a_c3; replace a_c4 := hb.cell a_c4; replace a_c5 := hb.cell a_c5; replace a_c6 := hb.cell a_c6; replace a_c7 := hb.cell a_c7; replace a_c8 := hb.cell a_c8; replace a_c9 := hb.cell a_c9; replace a_c10 := hb.cell a_c10; replace x_c0 := hb.cell x_c0; replace x_c1 := hb.cell x_c1))
    | (go_at_call 24; ((with_reducible refine (vars_any a_s a_p (0 : Int) a_v0 a_v1 a_v2 a_v3 a_l0 a_l1 a_l2 a_l3 _).mono ?_); rintro e w1 ⟨v1, rfl, hown1, hb⟩; replace hE := hE.next hb; replace hS := hS.trans hb; replace a_B := a_B.next hb; replace a_c0 := hb.cell a_c0; replace a_c1 := hb.cell a_c1; replace a_c2 := hb.cell a_c2; replace a_c3 := hb.cell a_c3; replace a_c4 := hb.cell a_c4; replace a_c5 := hb.cell a_c5; replace a_c6 := hb.cell a_c6; replace a_c7 := hb.cell a_c7; replace a_c8 := hb.cell a_c8; replace a_c9 := hb.cell a_c9; replace a_c10 := hb.cell a_c10; replace x_c0 := hb.cell x_c0; replace x_c1 := hb.cell x_c1)))
  clear c1 c2 hcut hlt hFS h300 heF
  have hR1 := row_of_own hown1
  clear hown1 hb
  obtain ⟨V, hV⟩ : ∃ V, Hid (V = namesA ((a_s, a_p, (0 : Int), (a_v0, a_l0), (a_v1, a_l1), (a_v2, a_l2), (a_v3, a_l3)) : Atm) true) := ⟨_, rfl⟩
  rw [← hV.out] at hR1
  obtain ⟨a1, c1, rfl⟩ := hR1.len
  obtain ⟨L, hL⟩ : ∃ L, Hid (L = argsL ((a_s, a_p, (0 : Int), (a_v0, a_l0), (a_v1, a_l1), (a_v2, a_l2), (a_v3, a_l3)) : Atm)) := ⟨argsL ((a_s, a_p, (0 : Int), (a_v0, a_l0), (a_v1, a_l1), (a_v2, a_l2), (a_v3, a_l3)) : Atm), rfl⟩
  have hl4 : Hid (L.length = 4) := by show _ = _; rw [hL.out]; rfl
  have hargs := a_B.args
  rw [← hL.out] at hargs
  have hsub : Hid (((V.drop 0).map fun y => ((true, y) : Tm)).Sublist ((L.take 0).drop 0)) := by
    show List.Sublist _ _
    rw [hL.out, hV.out]
    obtain ⟨s, h1, h2⟩ := namesF_split true ((argsL ((a_s, a_p, (0 : Int), (a_v0, a_l0), (a_v1, a_l1), (a_v2, a_l2), (a_v3, a_l3)) : Atm)).take (countA ((a_s, a_p, (0 : Int), (a_v0, a_l0), (a_v1, a_l1), (a_v2, a_l2), (a_v3, a_l3)) : Atm))) []
    rw [namesA, h1]
    exact h2
  have hV4 : V.length ≤ 4 := by
    have h1 := names_len ((a_s, a_p, (0 : Int), (a_v0, a_l0), (a_v1, a_l1), (a_v2, a_l2), (a_v3, a_l3)) : Atm)
    have h2 := countA_le ((a_s, a_p, (0 : Int), (a_v0, a_l0), (a_v1, a_l1), (a_v2, a_l2), (a_v3, a_l3)) : Atm)
    rw [← hV.out] at h1
    omega
  go_loopw [8, 9] (fun at_ i wr => ∃ (k j : Nat), k ≤ 0 ∧ j ≤ V.length ∧ i = .int .i64 k ∧ at_ = .int .i64 j ∧ Hid (((V.drop j).map fun y => ((true, y) : Tm)).Sublist ((L.take 0).drop k)) ∧ Since w1 wr) (fun _ i _ => 0 - (intOf i).toNat)
  case atStart => exact ⟨0, 0, by omega, by omega, rfl, rfl, hsub, Since.refl _⟩
  case round =>
    clear hsub
    obtain ⟨k, j, hk, hj, rfl, rfl, hsub, hSr⟩ := hrel
    have d2 := hSr.cell a_c2
    by_cases hlt : k < 0
    · exact absurd hlt (by omega)
    · have hjV : j = V.length := by
        have h1 := hsub.out
        have h0 : (L.take 0).drop k = [] := List.drop_eq_nil_of_le (by rw [List.length_take]; omega)
        rw [h0] at h1
        have h2 := h1.length_le
        simp only [List.length_map, List.length_drop, List.length_nil] at h2
        omega
      subst hjV
      obtain rfl : k = 0 := by omega
      clear hsub hlt hk hj hR1 hargs hl4 hL
      have hE2 := hE.next hSr
      have hS2 := hS.trans hSr
      have a_B2 := a_B.next hSr
      replace x_c0 := hSr.cell x_c0
      replace x_c1 := hSr.cell x_c1
      clear a_c0 a_c1 a_c2 a_c3 a_c4 a_c5 a_c6 a_c7 a_c8 a_c9 a_c10 a_B hE hS
      obtain ⟨a_c0, a_c1, a_c2, a_c3, a_c4, a_c5, a_c6, a_c7, a_c8, a_c9, a_c10⟩ := a_B2.all
      have hz1 : w.heap.size < wr.heap.size := World.block_lt_of_cell? wr _ a_c0
      have hz2 : w.heap.size + 1 < wr.heap.size := World.block_lt_of_cell? wr _ x_c0
      clear d2 hSr
      obtain ⟨R, hR⟩ : ∃ R, Hid (R = textA ((a_s, a_p, 1, (xv, xl), (a_v1, a_l1), (a_v2, a_l2), (a_v3, a_l3)) : Atm)) := ⟨_, rfl⟩
      have hBL : Light ((a_s, a_p, 1, (xv, xl), (a_v1, a_l1), (a_v2, a_l2), (a_v3, a_l3)) : Atm) := by
        refine ⟨HLA.out.1, HLA.out.2.1, fun t ht => ?_⟩
        have h3 := HLA.out.2.2
        have ht' : t ∈ [(xv, xl), (a_v1, a_l1), (a_v2, a_l2), (a_v3, a_l3)] := ht
        have h3' : ∀ t ∈ [(a_v0, a_l0), (a_v1, a_l1), (a_v2, a_l2), (a_v3, a_l3)], t.2.length ≤ 300 := h3
        simp only [List.mem_cons, List.not_mem_nil, or_false] at ht' h3'
        rcases ht' with rfl | rfl | rfl | rfl <;> first | exact fx | exact h3' _ (by simp)
      have HTB : Hid (∀ W, Calls Tryd.prog 23 #[.agg #[.string ⟨a_s.toArray⟩, .string ⟨a_p.toArray⟩, .int .i64 1, .bool xv, .string ⟨xl.toArray⟩, .bool a_v1, .string ⟨a_l1.toArray⟩, .bool a_v2, .string ⟨a_l2.toArray⟩, .bool a_v3, .string ⟨a_l3.toArray⟩]] W fun e w' => e = .returned (.string ⟨R.toArray⟩) ∧ Since W w') := by
        intro W; rw [hR.out]; exact text_any a_s a_p 1 xv a_v1 a_v2 a_v3 xl a_l1 a_l2 a_l3 W hBL
      clear hBL
      obtain ⟨X1, hX1⟩ : ∃ X, Hid (X = F ++ [40]) := ⟨F ++ [40], rfl⟩
      obtain ⟨X2, hX2⟩ : ∃ X, Hid (X = X1 ++ xl) := ⟨_, rfl⟩
      have hRX : R = X2 ++ [41] := by
        rw [hR.out, hX2.out, hX1.out, hF.out, textA, if_neg (by show ¬ (min (max (1 : Int) 0) 4).toNat = 0; decide)]
        show frontA _ ++ ([40] ++ (Lib.join [xl] [44, 32] ++ [41])) = _
        rw [join_one]
        simp [frontA]
      have d1 : ByteArray.mk F.toArray ++ ByteArray.mk #[40] = ByteArray.mk X1.toArray := by rw [hX1.out]; exact cat_bytes F [40]
      have d2 : ByteArray.mk X1.toArray ++ ByteArray.mk xl.toArray = ByteArray.mk X2.toArray := by rw [hX2.out]; exact cat_bytes X1 xl
      have d3 : ByteArray.mk X2.toArray ++ ByteArray.mk #[41] = ByteArray.mk R.toArray := by rw [hRX]; exact cat_bytes X2 [41]
      have l1 : X1.length ≤ 1000 := by rw [hX1.out]; simp; omega
      have l2 : X2.length ≤ 2000 := by rw [hX2.out]; simp; omega
      clear hRX
      go_wp2_with (first | (go_at_call 23; ((with_reducible refine (HTB.out _).mono ?_); rintro e w5 ⟨rfl, hb⟩; replace x_c1 := hb.cell (((Since.refl wr).alloc _).cell x_c1); replace a_c2 := hb.cell (((Since.refl wr).alloc _).cell a_c2))))
      go_ret
      exact ⟨rfl, (hS2.alloc _).trans hb⟩

set_option maxHeartbeats 4000000 in
set_option maxRecDepth 100000 in
theorem texts_1 (a_s a_p : List UInt8) (a_v0 a_v1 a_v2 a_v3 : Bool) (a_l0 a_l1 a_l2 a_l3 : List UInt8) (xv : Bool) (xl : List UInt8) (w : World) (hE : Env w) (fa : FitsA ((a_s, a_p, (1 : Int), (a_v0, a_l0), (a_v1, a_l1), (a_v2, a_l2), (a_v3, a_l3)) : Atm)) (fx : xl.length ≤ 300) (la : lightB ((a_s, a_p, (1 : Int), (a_v0, a_l0), (a_v1, a_l1), (a_v2, a_l2), (a_v3, a_l3)) : Atm) = true) (ka : (checkA ((a_s, a_p, (1 : Int), (a_v0, a_l0), (a_v1, a_l1), (a_v2, a_l2), (a_v3, a_l3)) : Atm) != 0) = false) (kx : termB (xv, xl) = true) :
    Calls Tryd.prog 5 #[.agg #[.string ⟨a_s.toArray⟩, .string ⟨a_p.toArray⟩, .int .i64 1, .bool a_v0, .string ⟨a_l0.toArray⟩, .bool a_v1, .string ⟨a_l1.toArray⟩, .bool a_v2, .string ⟨a_l2.toArray⟩, .bool a_v3, .string ⟨a_l3.toArray⟩], .agg #[.bool xv, .string ⟨xl.toArray⟩]] w fun e w' => e = .returned (.bool true) ∧ Since w w' := by
  have hS : Since w ((w.alloc (.cells #[.string ⟨a_s.toArray⟩, .string ⟨a_p.toArray⟩, .int .i64 1, .bool a_v0, .string ⟨a_l0.toArray⟩, .bool a_v1, .string ⟨a_l1.toArray⟩, .bool a_v2, .string ⟨a_l2.toArray⟩, .bool a_v3, .string ⟨a_l3.toArray⟩] 26)).alloc (.cells #[.bool xv, .string ⟨xl.toArray⟩] 23)) := ((Since.refl _).alloc _).alloc _
  have a_B : Box ((w.alloc (.cells #[.string ⟨a_s.toArray⟩, .string ⟨a_p.toArray⟩, .int .i64 1, .bool a_v0, .string ⟨a_l0.toArray⟩, .bool a_v1, .string ⟨a_l1.toArray⟩, .bool a_v2, .string ⟨a_l2.toArray⟩, .bool a_v3, .string ⟨a_l3.toArray⟩] 26)).alloc (.cells #[.bool xv, .string ⟨xl.toArray⟩] 23)) w.heap.size ((a_s, a_p, (1 : Int), (a_v0, a_l0), (a_v1, a_l1), (a_v2, a_l2), (a_v3, a_l3)) : Atm) := (box_new w ((a_s, a_p, (1 : Int), (a_v0, a_l0), (a_v1, a_l1), (a_v2, a_l2), (a_v3, a_l3)) : Atm) _).next ((Since.refl _).alloc _)
  have x_c0 : ((w.alloc (.cells #[.string ⟨a_s.toArray⟩, .string ⟨a_p.toArray⟩, .int .i64 1, .bool a_v0, .string ⟨a_l0.toArray⟩, .bool a_v1, .string ⟨a_l1.toArray⟩, .bool a_v2, .string ⟨a_l2.toArray⟩, .bool a_v3, .string ⟨a_l3.toArray⟩] 26)).alloc (.cells #[.bool xv, .string ⟨xl.toArray⟩] 23)).cell? ⟨w.heap.size + 1, 0, none⟩ = some (.bool xv) := by
    have := World.cell?_alloc_new (w.alloc (.cells #[.string ⟨a_s.toArray⟩, .string ⟨a_p.toArray⟩, .int .i64 1, .bool a_v0, .string ⟨a_l0.toArray⟩, .bool a_v1, .string ⟨a_l1.toArray⟩, .bool a_v2, .string ⟨a_l2.toArray⟩, .bool a_v3, .string ⟨a_l3.toArray⟩] 26)) #[.bool xv, .string ⟨xl.toArray⟩] 23 0
    rw [World.size_alloc] at this; rw [this]; rfl
  have x_c1 : ((w.alloc (.cells #[.string ⟨a_s.toArray⟩, .string ⟨a_p.toArray⟩, .int .i64 1, .bool a_v0, .string ⟨a_l0.toArray⟩, .bool a_v1, .string ⟨a_l1.toArray⟩, .bool a_v2, .string ⟨a_l2.toArray⟩, .bool a_v3, .string ⟨a_l3.toArray⟩] 26)).alloc (.cells #[.bool xv, .string ⟨xl.toArray⟩] 23)).cell? ⟨w.heap.size + 1, 1, none⟩ = some (.string ⟨xl.toArray⟩) := by
    have := World.cell?_alloc_new (w.alloc (.cells #[.string ⟨a_s.toArray⟩, .string ⟨a_p.toArray⟩, .int .i64 1, .bool a_v0, .string ⟨a_l0.toArray⟩, .bool a_v1, .string ⟨a_l1.toArray⟩, .bool a_v2, .string ⟨a_l2.toArray⟩, .bool a_v3, .string ⟨a_l3.toArray⟩] 26)) #[.bool xv, .string ⟨xl.toArray⟩] 23 1
    rw [World.size_alloc] at this; rw [this]; rfl
  obtain ⟨a_c0, a_c1, a_c2, a_c3, a_c4, a_c5, a_c6, a_c7, a_c8, a_c9, a_c10⟩ := a_B.all
  replace hE := hE.next hS
  have HFA := Lib.hid fa
  have hLa := light_of la
  have HLA := Lib.hid hLa
  have hX : (xl.length : Int) ≤ 300 := by omega
  obtain ⟨F, hF⟩ : ∃ F, Hid (F = frontA ((a_s, a_p, (1 : Int), (a_v0, a_l0), (a_v1, a_l1), (a_v2, a_l2), (a_v3, a_l3)) : Atm)) := ⟨_, rfl⟩
  obtain ⟨U, hU⟩ : ∃ U, Hid (U = a_s ++ [32, 115, 97, 121, 115, 32]) := ⟨a_s ++ [32, 115, 97, 121, 115, 32], rfl⟩
  have c1 : ByteArray.mk a_s.toArray ++ ByteArray.mk #[32, 115, 97, 121, 115, 32] = ByteArray.mk U.toArray := by rw [hU.out]; exact cat_bytes a_s [32, 115, 97, 121, 115, 32]
  have c2 : ByteArray.mk U.toArray ++ ByteArray.mk a_p.toArray = ByteArray.mk F.toArray := by rw [hU.out, hF.out, cat_bytes, frontA, List.append_assoc]
  have f1 : a_s.length ≤ 300 := hLa.1
  have f2 : a_p.length ≤ 300 := hLa.2.1
  have hUl : U.length ≤ 400 := by rw [hU.out]; simp; omega
  have hFl : F.length ≤ 800 := by
    rw [hF.out]; show (a_s ++ ([32, 115, 97, 121, 115, 32] ++ a_p)).length ≤ 800
    simp; omega
  obtain ⟨S, hS1⟩ : ∃ S, Hid (S = textA ((a_s, a_p, (1 : Int), (a_v0, a_l0), (a_v1, a_l1), (a_v2, a_l2), (a_v3, a_l3)) : Atm)) := ⟨_, rfl⟩
  have hSl : S.length ≤ 3000 := by rw [hS1.out]; exact text_len hLa (by decide)
  obtain ⟨T, hT⟩ : ∃ T, Hid (S = F ++ T) := ⟨_, by show _ = _; rw [hS1.out, textA, hF.out]⟩
  have hlt : decide ((S.length : Int) < (F.length : Int)) = false := decide_eq_false (by rw [hT.out]; simp; omega)
  have hcut := run_cut hT.out
  have HTA : Hid (∀ W, Calls Tryd.prog 23 #[.agg #[.string ⟨a_s.toArray⟩, .string ⟨a_p.toArray⟩, .int .i64 1, .bool a_v0, .string ⟨a_l0.toArray⟩, .bool a_v1, .string ⟨a_l1.toArray⟩, .bool a_v2, .string ⟨a_l2.toArray⟩, .bool a_v3, .string ⟨a_l3.toArray⟩]] W fun e w' => e = .returned (.string ⟨S.toArray⟩) ∧ Since W w') := by
    intro W; rw [hS1.out]; exact text_any a_s a_p (1 : Int) a_v0 a_v1 a_v2 a_v3 a_l0 a_l1 a_l2 a_l3 W HLA.out
  have heF : (S == F) = false := by
    rw [beq_eq_false_iff_ne, hS1.out, hF.out, textA, if_neg (by show ¬ (min (max (1 : Int) 0) 4).toNat = 0; decide)]
    intro h
    have := congrArg List.length h
    simp only [List.length_append, List.length_cons] at this
    omega
  have hFS : F.length ≤ S.length := by rw [hT.out]; simp
  have h300 : decide ((300 : Int) < (xl.length : Int)) = false := decide_eq_false (by omega)
  clear fa hLa
  go_enter Tryd.func5, Tryd.ntmps5
  go_wp2_with (first
    | (go_at_call 18; refine (lives03_any _ hE).mono ?_; rintro e w1 ⟨rfl, hb⟩; replace hE := hE.next hb; replace hS := hS.trans hb; replace a_B := a_B.next hb; replace a_c0 := hb.cell a_c0; replace a_c1 := hb.cell a_c1; replace a_c2 := hb.cell a_c2; replace a_c3 := hb.cell a_c3; replace a_c4 := hb.cell a_c4; replace a_c5 := hb.cell a_c5; replace a_c6 := hb.cell a_c6; replace a_c7 := hb.cell a_c7; replace a_c8 := hb.cell a_c8; replace a_c9 := hb.cell a_c9; replace a_c10 := hb.cell a_c10; replace x_c0 := hb.cell x_c0; replace x_c1 := hb.cell x_c1)
    | (go_at_call 12; ((with_reducible refine (light_any a_s a_p (1 : Int) a_v0 a_v1 a_v2 a_v3 a_l0 a_l1 a_l2 a_l3 _).mono ?_); rintro e w1 ⟨rfl, hb⟩; rw [la]; replace hE := hE.next hb; replace hS := hS.trans hb; replace a_B := a_B.next hb; replace a_c0 := hb.cell a_c0; replace a_c1 := hb.cell a_c1; replace a_c2 := hb.cell a_c2; replace a_c3 := hb.cell a_c3; replace a_c4 := hb.cell a_c4; replace a_c5 := hb.cell a_c5; replace a_c6 := hb.cell a_c6; replace a_c7 := hb.cell a_c7; replace a_c8 := hb.cell a_c8; replace a_c9 := hb.cell a_c9; replace a_c10 := hb.cell a_c10; replace x_c0 := hb.cell x_c0; replace x_c1 := hb.cell x_c1))
    | (go_at_call 21; ((with_reducible refine (check_any a_s a_p (1 : Int) a_v0 a_v1 a_v2 a_v3 a_l0 a_l1 a_l2 a_l3 _ HFA.out hE).mono ?_); rintro e w1 ⟨rfl, hb⟩; replace hE := hE.next hb; replace hS := hS.trans hb; replace a_B := a_B.next hb; replace a_c0 := hb.cell a_c0; replace a_c1 := hb.cell a_c1; replace a_c2 := hb.cell a_c2; replace a_c3 := hb.cell a_c3; replace a_c4 := hb.cell a_c4; replace a_c5 := hb.cell a_c5; replace a_c6 := hb.cell a_c6; replace a_c7 := hb.cell a_c7; replace a_c8 := hb.cell a_c8; replace a_c9 := hb.cell a_c9; replace a_c10 := hb.cell a_c10; replace x_c0 := hb.cell x_c0; replace x_c1 := hb.cell x_c1))
    | (go_at_call 22; ((with_reducible refine (term_any xv xl _ (by unfold maxLen; omega) hE).mono ?_); rintro e w1 ⟨rfl, hb⟩; rw [kx]; replace hE := hE.next hb; replace hS := hS.trans hb; replace a_B := a_B.next hb; replace a_c0 := hb.cell a_c0; replace a_c1 := hb.cell a_c1; replace a_c2 := hb.cell a_c2; replace a_c3 := hb.cell a_c3; replace a_c4 := hb.cell a_c4; replace a_c5 := hb.cell a_c5; replace a_c6 := hb.cell a_c6; replace a_c7 := hb.cell a_c7; replace a_c8 := hb.cell a_c8; replace a_c9 := hb.cell a_c9; replace a_c10 := hb.cell a_c10; replace x_c0 := hb.cell x_c0; replace x_c1 := hb.cell x_c1))
    | (go_at_call 23; ((with_reducible refine (HTA.out _).mono ?_); rintro e w1 ⟨rfl, hb⟩; replace hE := hE.next hb; replace hS := hS.trans hb; replace a_B := a_B.next hb; replace a_c0 := hb.cell a_c0; replace a_c1 := hb.cell a_c1; replace a_c2 := hb.cell a_c2; replace a_c3 := hb.cell a_c3; replace a_c4 := hb.cell a_c4; replace a_c5 := hb.cell a_c5; replace a_c6 := hb.cell a_c6; replace a_c7 := hb.cell a_c7; replace a_c8 := hb.cell a_c8; replace a_c9 := hb.cell a_c9; replace a_c10 := hb.cell a_c10; replace x_c0 := hb.cell x_c0; replace x_c1 := hb.cell x_c1))
    | (go_at_call 24; ((with_reducible refine (vars_any a_s a_p (1 : Int) a_v0 a_v1 a_v2 a_v3 a_l0 a_l1 a_l2 a_l3 _).mono ?_); rintro e w1 ⟨v1, rfl, hown1, hb⟩; replace hE := hE.next hb; replace hS := hS.trans hb; replace a_B := a_B.next hb; replace a_c0 := hb.cell a_c0; replace a_c1 := hb.cell a_c1; replace a_c2 := hb.cell a_c2; replace a_c3 := hb.cell a_c3; replace a_c4 := hb.cell a_c4; replace a_c5 := hb.cell a_c5; replace a_c6 := hb.cell a_c6; replace a_c7 := hb.cell a_c7; replace a_c8 := hb.cell a_c8; replace a_c9 := hb.cell a_c9; replace a_c10 := hb.cell a_c10; replace x_c0 := hb.cell x_c0; replace x_c1 := hb.cell x_c1)))
  clear c1 c2 hcut hlt hFS h300 heF
  have hR1 := row_of_own hown1
  clear hown1 hb
  obtain ⟨V, hV⟩ : ∃ V, Hid (V = namesA ((a_s, a_p, (1 : Int), (a_v0, a_l0), (a_v1, a_l1), (a_v2, a_l2), (a_v3, a_l3)) : Atm) true) := ⟨_, rfl⟩
  rw [← hV.out] at hR1
  obtain ⟨a1, c1, rfl⟩ := hR1.len
  obtain ⟨L, hL⟩ : ∃ L, Hid (L = argsL ((a_s, a_p, (1 : Int), (a_v0, a_l0), (a_v1, a_l1), (a_v2, a_l2), (a_v3, a_l3)) : Atm)) := ⟨argsL ((a_s, a_p, (1 : Int), (a_v0, a_l0), (a_v1, a_l1), (a_v2, a_l2), (a_v3, a_l3)) : Atm), rfl⟩
  have hl4 : Hid (L.length = 4) := by show _ = _; rw [hL.out]; rfl
  have hargs := a_B.args
  rw [← hL.out] at hargs
  have hsub : Hid (((V.drop 0).map fun y => ((true, y) : Tm)).Sublist ((L.take 1).drop 0)) := by
    show List.Sublist _ _
    rw [hL.out, hV.out]
    obtain ⟨s, h1, h2⟩ := namesF_split true ((argsL ((a_s, a_p, (1 : Int), (a_v0, a_l0), (a_v1, a_l1), (a_v2, a_l2), (a_v3, a_l3)) : Atm)).take (countA ((a_s, a_p, (1 : Int), (a_v0, a_l0), (a_v1, a_l1), (a_v2, a_l2), (a_v3, a_l3)) : Atm))) []
    rw [namesA, h1]
    exact h2
  have hV4 : V.length ≤ 4 := by
    have h1 := names_len ((a_s, a_p, (1 : Int), (a_v0, a_l0), (a_v1, a_l1), (a_v2, a_l2), (a_v3, a_l3)) : Atm)
    have h2 := countA_le ((a_s, a_p, (1 : Int), (a_v0, a_l0), (a_v1, a_l1), (a_v2, a_l2), (a_v3, a_l3)) : Atm)
    rw [← hV.out] at h1
    omega
  go_loopw [8, 9] (fun at_ i wr => ∃ (k j : Nat), k ≤ 1 ∧ j ≤ V.length ∧ i = .int .i64 k ∧ at_ = .int .i64 j ∧ Hid (((V.drop j).map fun y => ((true, y) : Tm)).Sublist ((L.take 1).drop k)) ∧ Since w1 wr) (fun _ i _ => 1 - (intOf i).toNat)
  case atStart => exact ⟨0, 0, by omega, by omega, rfl, rfl, hsub, Since.refl _⟩
  case round =>
    clear hsub
    obtain ⟨k, j, hk, hj, rfl, rfl, hsub, hSr⟩ := hrel
    have d2 := hSr.cell a_c2
    by_cases hlt : k < 1
    · have hkL : k < L.length := by rw [hl4.out]; omega
      obtain ⟨d3, d4⟩ := (hargs.next hSr).2 k hkL
      have hst := take_drop_step (n := 1) hkL hlt
      have hsub' := hsub.out
      rw [hst] at hsub'
      have HSUB := Lib.hid hsub'
      clear hsub hsub' hst
      have hk4 : (k : Int) < 4 := by omega
      generalize L[k] = t at *
      obtain ⟨tv, tl⟩ := t
      by_cases hjl : j < V.length
      · obtain ⟨b1, o1, c1', e1, hc1, hcell1⟩ := (hR1.next hSr).some (by omega)
        injection e1 with e1 _ e1'
        subst e1 e1'
        have f1 := hcell1 j (by simpa using hjl)
        simp only [List.getElem_map, strV] at f1
        have hdr := List.drop_eq_getElem_cons hjl
        have hsub2 := HSUB.out
        rw [hdr] at hsub2
        have HSUB2 := Lib.hid hsub2
        have HDR := Lib.hid hdr
        clear hsub2 HSUB hdr hcell1
        have hji : decide ((j : Int) < (V.length : Int)) = true := decide_eq_true (by omega)
        have hj0 : (0 : Int) ≤ (j : Int) := by omega
        have hj1 : (j : Int) < (V.length : Int) := by omega
        have hk0 : (0 : Int) ≤ (k : Int) := by omega
        generalize V[j] = y at *
        cases he : eqT (tv, tl) (true, y)
        all_goals
          go_wp2_with fail
          go_region_held3 (fun w' => w'.cell? ⟨w.heap.size, 3 + k * 2, none⟩ = some (.bool tv) ∧ w'.cell? ⟨w.heap.size, 3 + k * 2 + 1, none⟩ = some (.string ⟨tl.toArray⟩) ∧ w'.cell? ⟨b1, o1 + j, none⟩ = some (.string ⟨y.toArray⟩))
            (first | (refine ⟨?_, ?_, ?_⟩ <;> assumption) | (go_split_ands; refine ⟨?_, ?_, ?_⟩ <;> (refine Since.cell hb ?_; assumption)))
            (first | (go_at_call 25; ((with_reducible refine (kV_any y _).mono ?_); rintro e w5 ⟨rfl, hb⟩)))
          go_wp2_with fail
          go_roundw
          case measure => simp [intOf]; omega
        · exact ⟨k + 1, j, by omega, by omega, by go_num, rfl, (by
            have h3 := sub_miss HSUB2.out he
            rw [← HDR.out] at h3
            exact h3), hSr.drew.trans hb⟩
        · exact ⟨k + 1, j + 1, by omega, by omega, by go_num, by go_num, sub_hit HSUB2.out he, hSr.drew.trans hb⟩
      · have hji : decide ((j : Int) < (V.length : Int)) = false := decide_eq_false (by omega)
        go_wp2_with fail
        go_quiet (fail)
        go_wp2_with fail
        go_roundw
        case rel => exact ⟨k + 1, j, by omega, by omega, by go_num, rfl, (by
          show List.Sublist _ _
          rw [List.drop_eq_nil_of_le (by omega)]; simp), hSr.drewN _⟩
        case measure => simp [intOf]; omega
    · have hjV : j = V.length := by
        have h1 := hsub.out
        have h0 : (L.take 1).drop k = [] := List.drop_eq_nil_of_le (by rw [List.length_take]; omega)
        rw [h0] at h1
        have h2 := h1.length_le
        simp only [List.length_map, List.length_drop, List.length_nil] at h2
        omega
      subst hjV
      obtain rfl : k = 1 := by omega
      clear hsub hlt hk hj hR1 hargs hl4 hL
      have hE2 := hE.next hSr
      have hS2 := hS.trans hSr
      have a_B2 := a_B.next hSr
      replace x_c0 := hSr.cell x_c0
      replace x_c1 := hSr.cell x_c1
      clear a_c0 a_c1 a_c2 a_c3 a_c4 a_c5 a_c6 a_c7 a_c8 a_c9 a_c10 a_B hE hS
      obtain ⟨a_c0, a_c1, a_c2, a_c3, a_c4, a_c5, a_c6, a_c7, a_c8, a_c9, a_c10⟩ := a_B2.all
      have hz1 : w.heap.size < wr.heap.size := World.block_lt_of_cell? wr _ a_c0
      have hz2 : w.heap.size + 1 < wr.heap.size := World.block_lt_of_cell? wr _ x_c0
      clear d2 hSr
      obtain ⟨R, hR⟩ : ∃ R, Hid (R = textA ((a_s, a_p, 2, (a_v0, a_l0), (xv, xl), (a_v2, a_l2), (a_v3, a_l3)) : Atm)) := ⟨_, rfl⟩
      have hBL : Light ((a_s, a_p, 2, (a_v0, a_l0), (xv, xl), (a_v2, a_l2), (a_v3, a_l3)) : Atm) := by
        refine ⟨HLA.out.1, HLA.out.2.1, fun t ht => ?_⟩
        have h3 := HLA.out.2.2
        have ht' : t ∈ [(a_v0, a_l0), (xv, xl), (a_v2, a_l2), (a_v3, a_l3)] := ht
        have h3' : ∀ t ∈ [(a_v0, a_l0), (a_v1, a_l1), (a_v2, a_l2), (a_v3, a_l3)], t.2.length ≤ 300 := h3
        simp only [List.mem_cons, List.not_mem_nil, or_false] at ht' h3'
        rcases ht' with rfl | rfl | rfl | rfl <;> first | exact fx | exact h3' _ (by simp)
      have HTB : Hid (∀ W, Calls Tryd.prog 23 #[.agg #[.string ⟨a_s.toArray⟩, .string ⟨a_p.toArray⟩, .int .i64 2, .bool a_v0, .string ⟨a_l0.toArray⟩, .bool xv, .string ⟨xl.toArray⟩, .bool a_v2, .string ⟨a_l2.toArray⟩, .bool a_v3, .string ⟨a_l3.toArray⟩]] W fun e w' => e = .returned (.string ⟨R.toArray⟩) ∧ Since W w') := by
        intro W; rw [hR.out]; exact text_any a_s a_p 2 a_v0 xv a_v2 a_v3 a_l0 xl a_l2 a_l3 W hBL
      clear hBL
      obtain ⟨Q, hQ⟩ : ∃ Q, Hid (S = Q ++ [41]) := by
        refine ⟨F ++ ([40] ++ Lib.join (namesOf ((a_s, a_p, (1 : Int), (a_v0, a_l0), (a_v1, a_l1), (a_v2, a_l2), (a_v3, a_l3)) : Atm)) [44, 32]), ?_⟩
        show _ = _
        rw [hS1.out, textA, hF.out, if_neg (by show ¬ (min (max (1 : Int) 0) 4).toNat = 0; decide)]; simp
      obtain ⟨X1, hX1⟩ : ∃ X, Hid (X = Q ++ [44, 32]) := ⟨Q ++ [44, 32], rfl⟩
      obtain ⟨X2, hX2⟩ : ∃ X, Hid (X = X1 ++ xl) := ⟨_, rfl⟩
      have hQl : S.length = Q.length + 1 := by rw [hQ.out]; simp
      have hRX : R = X2 ++ [41] := by
        have e1 : S = F ++ ([40] ++ (Lib.join (namesOf ((a_s, a_p, (1 : Int), (a_v0, a_l0), (a_v1, a_l1), (a_v2, a_l2), (a_v3, a_l3)) : Atm)) [44, 32] ++ [41])) := by
          rw [hS1.out, textA, hF.out, if_neg (by show ¬ (min (max (1 : Int) 0) 4).toNat = 0; decide)]
        have e2 : Q = F ++ ([40] ++ Lib.join (namesOf ((a_s, a_p, (1 : Int), (a_v0, a_l0), (a_v1, a_l1), (a_v2, a_l2), (a_v3, a_l3)) : Atm)) [44, 32]) := by
          have := hQ.out
          rw [e1] at this
          have h3 : (F ++ ([40] ++ Lib.join (namesOf ((a_s, a_p, (1 : Int), (a_v0, a_l0), (a_v1, a_l1), (a_v2, a_l2), (a_v3, a_l3)) : Atm)) [44, 32])) ++ [41] = Q ++ [41] := by rw [← this]; simp
          exact (List.append_cancel_right h3).symm
        rw [hR.out, hX2.out, hX1.out, e2, hF.out, textA, if_neg (by show ¬ (min (max (2 : Int) 0) 4).toNat = 0; decide)]
        show frontA _ ++ ([40] ++ (Lib.join (namesOf ((a_s, a_p, (1 : Int), (a_v0, a_l0), (a_v1, a_l1), (a_v2, a_l2), (a_v3, a_l3)) : Atm) ++ [xl]) [44, 32] ++ [41])) = _
        rw [join_snoc _ _ (names_ne (by show ¬ (min (max (1 : Int) 0) 4).toNat = 0; decide))]
        simp [frontA]
      have hcut2 := fun W => run_cut hQ.out W
      have hw : IntKind.i64.wrap ((S.length : Int) - 1) = (Q.length : Int) := by rw [IntWalk.i64_in _ (by omega)]; omega
      have d1 : ByteArray.mk Q.toArray ++ ByteArray.mk #[44, 32] = ByteArray.mk X1.toArray := by rw [hX1.out]; exact cat_bytes Q [44, 32]
      have d2 : ByteArray.mk X1.toArray ++ ByteArray.mk xl.toArray = ByteArray.mk X2.toArray := by rw [hX2.out]; exact cat_bytes X1 xl
      have d3 : ByteArray.mk X2.toArray ++ ByteArray.mk #[41] = ByteArray.mk R.toArray := by rw [hRX]; exact cat_bytes X2 [41]
      have l0 : Q.length ≤ 3000 := by omega
      have l1 : X1.length ≤ 4000 := by rw [hX1.out]; simp; omega
      have l2 : X2.length ≤ 5000 := by rw [hX2.out]; simp; omega
      have HQL := Lib.hid hQl
      clear hRX hQl
      go_wp2_with (first | (go_at_call 23; ((with_reducible refine (HTB.out _).mono ?_); rintro e w5 ⟨rfl, hb⟩; replace x_c1 := hb.cell (((Since.refl wr).alloc _).cell x_c1); replace a_c2 := hb.cell (((Since.refl wr).alloc _).cell a_c2))))
      go_quiet (fail)
      go_wp2_with fail
      go_ret
      exact ⟨rfl, ((hS2.alloc _).trans hb).drewN _⟩

set_option maxHeartbeats 4000000 in
set_option maxRecDepth 100000 in
theorem texts_2 (a_s a_p : List UInt8) (a_v0 a_v1 a_v2 a_v3 : Bool) (a_l0 a_l1 a_l2 a_l3 : List UInt8) (xv : Bool) (xl : List UInt8) (w : World) (hE : Env w) (fa : FitsA ((a_s, a_p, (2 : Int), (a_v0, a_l0), (a_v1, a_l1), (a_v2, a_l2), (a_v3, a_l3)) : Atm)) (fx : xl.length ≤ 300) (la : lightB ((a_s, a_p, (2 : Int), (a_v0, a_l0), (a_v1, a_l1), (a_v2, a_l2), (a_v3, a_l3)) : Atm) = true) (ka : (checkA ((a_s, a_p, (2 : Int), (a_v0, a_l0), (a_v1, a_l1), (a_v2, a_l2), (a_v3, a_l3)) : Atm) != 0) = false) (kx : termB (xv, xl) = true) :
    Calls Tryd.prog 5 #[.agg #[.string ⟨a_s.toArray⟩, .string ⟨a_p.toArray⟩, .int .i64 2, .bool a_v0, .string ⟨a_l0.toArray⟩, .bool a_v1, .string ⟨a_l1.toArray⟩, .bool a_v2, .string ⟨a_l2.toArray⟩, .bool a_v3, .string ⟨a_l3.toArray⟩], .agg #[.bool xv, .string ⟨xl.toArray⟩]] w fun e w' => e = .returned (.bool true) ∧ Since w w' := by
  have hS : Since w ((w.alloc (.cells #[.string ⟨a_s.toArray⟩, .string ⟨a_p.toArray⟩, .int .i64 2, .bool a_v0, .string ⟨a_l0.toArray⟩, .bool a_v1, .string ⟨a_l1.toArray⟩, .bool a_v2, .string ⟨a_l2.toArray⟩, .bool a_v3, .string ⟨a_l3.toArray⟩] 26)).alloc (.cells #[.bool xv, .string ⟨xl.toArray⟩] 23)) := ((Since.refl _).alloc _).alloc _
  have a_B : Box ((w.alloc (.cells #[.string ⟨a_s.toArray⟩, .string ⟨a_p.toArray⟩, .int .i64 2, .bool a_v0, .string ⟨a_l0.toArray⟩, .bool a_v1, .string ⟨a_l1.toArray⟩, .bool a_v2, .string ⟨a_l2.toArray⟩, .bool a_v3, .string ⟨a_l3.toArray⟩] 26)).alloc (.cells #[.bool xv, .string ⟨xl.toArray⟩] 23)) w.heap.size ((a_s, a_p, (2 : Int), (a_v0, a_l0), (a_v1, a_l1), (a_v2, a_l2), (a_v3, a_l3)) : Atm) := (box_new w ((a_s, a_p, (2 : Int), (a_v0, a_l0), (a_v1, a_l1), (a_v2, a_l2), (a_v3, a_l3)) : Atm) _).next ((Since.refl _).alloc _)
  have x_c0 : ((w.alloc (.cells #[.string ⟨a_s.toArray⟩, .string ⟨a_p.toArray⟩, .int .i64 2, .bool a_v0, .string ⟨a_l0.toArray⟩, .bool a_v1, .string ⟨a_l1.toArray⟩, .bool a_v2, .string ⟨a_l2.toArray⟩, .bool a_v3, .string ⟨a_l3.toArray⟩] 26)).alloc (.cells #[.bool xv, .string ⟨xl.toArray⟩] 23)).cell? ⟨w.heap.size + 1, 0, none⟩ = some (.bool xv) := by
    have := World.cell?_alloc_new (w.alloc (.cells #[.string ⟨a_s.toArray⟩, .string ⟨a_p.toArray⟩, .int .i64 2, .bool a_v0, .string ⟨a_l0.toArray⟩, .bool a_v1, .string ⟨a_l1.toArray⟩, .bool a_v2, .string ⟨a_l2.toArray⟩, .bool a_v3, .string ⟨a_l3.toArray⟩] 26)) #[.bool xv, .string ⟨xl.toArray⟩] 23 0
    rw [World.size_alloc] at this; rw [this]; rfl
  have x_c1 : ((w.alloc (.cells #[.string ⟨a_s.toArray⟩, .string ⟨a_p.toArray⟩, .int .i64 2, .bool a_v0, .string ⟨a_l0.toArray⟩, .bool a_v1, .string ⟨a_l1.toArray⟩, .bool a_v2, .string ⟨a_l2.toArray⟩, .bool a_v3, .string ⟨a_l3.toArray⟩] 26)).alloc (.cells #[.bool xv, .string ⟨xl.toArray⟩] 23)).cell? ⟨w.heap.size + 1, 1, none⟩ = some (.string ⟨xl.toArray⟩) := by
    have := World.cell?_alloc_new (w.alloc (.cells #[.string ⟨a_s.toArray⟩, .string ⟨a_p.toArray⟩, .int .i64 2, .bool a_v0, .string ⟨a_l0.toArray⟩, .bool a_v1, .string ⟨a_l1.toArray⟩, .bool a_v2, .string ⟨a_l2.toArray⟩, .bool a_v3, .string ⟨a_l3.toArray⟩] 26)) #[.bool xv, .string ⟨xl.toArray⟩] 23 1
    rw [World.size_alloc] at this; rw [this]; rfl
  obtain ⟨a_c0, a_c1, a_c2, a_c3, a_c4, a_c5, a_c6, a_c7, a_c8, a_c9, a_c10⟩ := a_B.all
  replace hE := hE.next hS
  have HFA := Lib.hid fa
  have hLa := light_of la
  have HLA := Lib.hid hLa
  have hX : (xl.length : Int) ≤ 300 := by omega
  obtain ⟨F, hF⟩ : ∃ F, Hid (F = frontA ((a_s, a_p, (2 : Int), (a_v0, a_l0), (a_v1, a_l1), (a_v2, a_l2), (a_v3, a_l3)) : Atm)) := ⟨_, rfl⟩
  obtain ⟨U, hU⟩ : ∃ U, Hid (U = a_s ++ [32, 115, 97, 121, 115, 32]) := ⟨a_s ++ [32, 115, 97, 121, 115, 32], rfl⟩
  have c1 : ByteArray.mk a_s.toArray ++ ByteArray.mk #[32, 115, 97, 121, 115, 32] = ByteArray.mk U.toArray := by rw [hU.out]; exact cat_bytes a_s [32, 115, 97, 121, 115, 32]
  have c2 : ByteArray.mk U.toArray ++ ByteArray.mk a_p.toArray = ByteArray.mk F.toArray := by rw [hU.out, hF.out, cat_bytes, frontA, List.append_assoc]
  have f1 : a_s.length ≤ 300 := hLa.1
  have f2 : a_p.length ≤ 300 := hLa.2.1
  have hUl : U.length ≤ 400 := by rw [hU.out]; simp; omega
  have hFl : F.length ≤ 800 := by
    rw [hF.out]; show (a_s ++ ([32, 115, 97, 121, 115, 32] ++ a_p)).length ≤ 800
    simp; omega
  obtain ⟨S, hS1⟩ : ∃ S, Hid (S = textA ((a_s, a_p, (2 : Int), (a_v0, a_l0), (a_v1, a_l1), (a_v2, a_l2), (a_v3, a_l3)) : Atm)) := ⟨_, rfl⟩
  have hSl : S.length ≤ 3000 := by rw [hS1.out]; exact text_len hLa (by decide)
  obtain ⟨T, hT⟩ : ∃ T, Hid (S = F ++ T) := ⟨_, by show _ = _; rw [hS1.out, textA, hF.out]⟩
  have hlt : decide ((S.length : Int) < (F.length : Int)) = false := decide_eq_false (by rw [hT.out]; simp; omega)
  have hcut := run_cut hT.out
  have HTA : Hid (∀ W, Calls Tryd.prog 23 #[.agg #[.string ⟨a_s.toArray⟩, .string ⟨a_p.toArray⟩, .int .i64 2, .bool a_v0, .string ⟨a_l0.toArray⟩, .bool a_v1, .string ⟨a_l1.toArray⟩, .bool a_v2, .string ⟨a_l2.toArray⟩, .bool a_v3, .string ⟨a_l3.toArray⟩]] W fun e w' => e = .returned (.string ⟨S.toArray⟩) ∧ Since W w') := by
    intro W; rw [hS1.out]; exact text_any a_s a_p (2 : Int) a_v0 a_v1 a_v2 a_v3 a_l0 a_l1 a_l2 a_l3 W HLA.out
  have heF : (S == F) = false := by
    rw [beq_eq_false_iff_ne, hS1.out, hF.out, textA, if_neg (by show ¬ (min (max (2 : Int) 0) 4).toNat = 0; decide)]
    intro h
    have := congrArg List.length h
    simp only [List.length_append, List.length_cons] at this
    omega
  have hFS : F.length ≤ S.length := by rw [hT.out]; simp
  have h300 : decide ((300 : Int) < (xl.length : Int)) = false := decide_eq_false (by omega)
  clear fa hLa
  go_enter Tryd.func5, Tryd.ntmps5
  go_wp2_with (first
    | (go_at_call 18; refine (lives03_any _ hE).mono ?_; rintro e w1 ⟨rfl, hb⟩; replace hE := hE.next hb; replace hS := hS.trans hb; replace a_B := a_B.next hb; replace a_c0 := hb.cell a_c0; replace a_c1 := hb.cell a_c1; replace a_c2 := hb.cell a_c2; replace a_c3 := hb.cell a_c3; replace a_c4 := hb.cell a_c4; replace a_c5 := hb.cell a_c5; replace a_c6 := hb.cell a_c6; replace a_c7 := hb.cell a_c7; replace a_c8 := hb.cell a_c8; replace a_c9 := hb.cell a_c9; replace a_c10 := hb.cell a_c10; replace x_c0 := hb.cell x_c0; replace x_c1 := hb.cell x_c1)
    | (go_at_call 12; ((with_reducible refine (light_any a_s a_p (2 : Int) a_v0 a_v1 a_v2 a_v3 a_l0 a_l1 a_l2 a_l3 _).mono ?_); rintro e w1 ⟨rfl, hb⟩; rw [la]; replace hE := hE.next hb; replace hS := hS.trans hb; replace a_B := a_B.next hb; replace a_c0 := hb.cell a_c0; replace a_c1 := hb.cell a_c1; replace a_c2 := hb.cell a_c2; replace a_c3 := hb.cell a_c3; replace a_c4 := hb.cell a_c4; replace a_c5 := hb.cell a_c5; replace a_c6 := hb.cell a_c6; replace a_c7 := hb.cell a_c7; replace a_c8 := hb.cell a_c8; replace a_c9 := hb.cell a_c9; replace a_c10 := hb.cell a_c10; replace x_c0 := hb.cell x_c0; replace x_c1 := hb.cell x_c1))
    | (go_at_call 21; ((with_reducible refine (check_any a_s a_p (2 : Int) a_v0 a_v1 a_v2 a_v3 a_l0 a_l1 a_l2 a_l3 _ HFA.out hE).mono ?_); rintro e w1 ⟨rfl, hb⟩; replace hE := hE.next hb; replace hS := hS.trans hb; replace a_B := a_B.next hb; replace a_c0 := hb.cell a_c0; replace a_c1 := hb.cell a_c1; replace a_c2 := hb.cell a_c2; replace a_c3 := hb.cell a_c3; replace a_c4 := hb.cell a_c4; replace a_c5 := hb.cell a_c5; replace a_c6 := hb.cell a_c6; replace a_c7 := hb.cell a_c7; replace a_c8 := hb.cell a_c8; replace a_c9 := hb.cell a_c9; replace a_c10 := hb.cell a_c10; replace x_c0 := hb.cell x_c0; replace x_c1 := hb.cell x_c1))
    | (go_at_call 22; ((with_reducible refine (term_any xv xl _ (by unfold maxLen; omega) hE).mono ?_); rintro e w1 ⟨rfl, hb⟩; rw [kx]; replace hE := hE.next hb; replace hS := hS.trans hb; replace a_B := a_B.next hb; replace a_c0 := hb.cell a_c0; replace a_c1 := hb.cell a_c1; replace a_c2 := hb.cell a_c2; replace a_c3 := hb.cell a_c3; replace a_c4 := hb.cell a_c4; replace a_c5 := hb.cell a_c5; replace a_c6 := hb.cell a_c6; replace a_c7 := hb.cell a_c7; replace a_c8 := hb.cell a_c8; replace a_c9 := hb.cell a_c9; replace a_c10 := hb.cell a_c10; replace x_c0 := hb.cell x_c0; replace x_c1 := hb.cell x_c1))
    | (go_at_call 23; ((with_reducible refine (HTA.out _).mono ?_); rintro e w1 ⟨rfl, hb⟩; replace hE := hE.next hb; replace hS := hS.trans hb; replace a_B := a_B.next hb; replace a_c0 := hb.cell a_c0; replace a_c1 := hb.cell a_c1; replace a_c2 := hb.cell a_c2; replace a_c3 := hb.cell a_c3; replace a_c4 := hb.cell a_c4; replace a_c5 := hb.cell a_c5; replace a_c6 := hb.cell a_c6; replace a_c7 := hb.cell a_c7; replace a_c8 := hb.cell a_c8; replace a_c9 := hb.cell a_c9; replace a_c10 := hb.cell a_c10; replace x_c0 := hb.cell x_c0; replace x_c1 := hb.cell x_c1))
    | (go_at_call 24; ((with_reducible refine (vars_any a_s a_p (2 : Int) a_v0 a_v1 a_v2 a_v3 a_l0 a_l1 a_l2 a_l3 _).mono ?_); rintro e w1 ⟨v1, rfl, hown1, hb⟩; replace hE := hE.next hb; replace hS := hS.trans hb; replace a_B := a_B.next hb; replace a_c0 := hb.cell a_c0; replace a_c1 := hb.cell a_c1; replace a_c2 := hb.cell a_c2; replace a_c3 := hb.cell a_c3; replace a_c4 := hb.cell a_c4; replace a_c5 := hb.cell a_c5; replace a_c6 := hb.cell a_c6; replace a_c7 := hb.cell a_c7; replace a_c8 := hb.cell a_c8; replace a_c9 := hb.cell a_c9; replace a_c10 := hb.cell a_c10; replace x_c0 := hb.cell x_c0; replace x_c1 := hb.cell x_c1)))
  clear c1 c2 hcut hlt hFS h300 heF
  have hR1 := row_of_own hown1
  clear hown1 hb
  obtain ⟨V, hV⟩ : ∃ V, Hid (V = namesA ((a_s, a_p, (2 : Int), (a_v0, a_l0), (a_v1, a_l1), (a_v2, a_l2), (a_v3, a_l3)) : Atm) true) := ⟨_, rfl⟩
  rw [← hV.out] at hR1
  obtain ⟨a1, c1, rfl⟩ := hR1.len
  obtain ⟨L, hL⟩ : ∃ L, Hid (L = argsL ((a_s, a_p, (2 : Int), (a_v0, a_l0), (a_v1, a_l1), (a_v2, a_l2), (a_v3, a_l3)) : Atm)) := ⟨argsL ((a_s, a_p, (2 : Int), (a_v0, a_l0), (a_v1, a_l1), (a_v2, a_l2), (a_v3, a_l3)) : Atm), rfl⟩
  have hl4 : Hid (L.length = 4) := by show _ = _; rw [hL.out]; rfl
  have hargs := a_B.args
  rw [← hL.out] at hargs
  have hsub : Hid (((V.drop 0).map fun y => ((true, y) : Tm)).Sublist ((L.take 2).drop 0)) := by
    show List.Sublist _ _
    rw [hL.out, hV.out]
    obtain ⟨s, h1, h2⟩ := namesF_split true ((argsL ((a_s, a_p, (2 : Int), (a_v0, a_l0), (a_v1, a_l1), (a_v2, a_l2), (a_v3, a_l3)) : Atm)).take (countA ((a_s, a_p, (2 : Int), (a_v0, a_l0), (a_v1, a_l1), (a_v2, a_l2), (a_v3, a_l3)) : Atm))) []
    rw [namesA, h1]
    exact h2
  have hV4 : V.length ≤ 4 := by
    have h1 := names_len ((a_s, a_p, (2 : Int), (a_v0, a_l0), (a_v1, a_l1), (a_v2, a_l2), (a_v3, a_l3)) : Atm)
    have h2 := countA_le ((a_s, a_p, (2 : Int), (a_v0, a_l0), (a_v1, a_l1), (a_v2, a_l2), (a_v3, a_l3)) : Atm)
    rw [← hV.out] at h1
    omega
  go_loopw [8, 9] (fun at_ i wr => ∃ (k j : Nat), k ≤ 2 ∧ j ≤ V.length ∧ i = .int .i64 k ∧ at_ = .int .i64 j ∧ Hid (((V.drop j).map fun y => ((true, y) : Tm)).Sublist ((L.take 2).drop k)) ∧ Since w1 wr) (fun _ i _ => 2 - (intOf i).toNat)
  case atStart => exact ⟨0, 0, by omega, by omega, rfl, rfl, hsub, Since.refl _⟩
  case round =>
    clear hsub
    obtain ⟨k, j, hk, hj, rfl, rfl, hsub, hSr⟩ := hrel
    have d2 := hSr.cell a_c2
    by_cases hlt : k < 2
    · have hkL : k < L.length := by rw [hl4.out]; omega
      obtain ⟨d3, d4⟩ := (hargs.next hSr).2 k hkL
      have hst := take_drop_step (n := 2) hkL hlt
      have hsub' := hsub.out
      rw [hst] at hsub'
      have HSUB := Lib.hid hsub'
      clear hsub hsub' hst
      have hk4 : (k : Int) < 4 := by omega
      generalize L[k] = t at *
      obtain ⟨tv, tl⟩ := t
      by_cases hjl : j < V.length
      · obtain ⟨b1, o1, c1', e1, hc1, hcell1⟩ := (hR1.next hSr).some (by omega)
        injection e1 with e1 _ e1'
        subst e1 e1'
        have f1 := hcell1 j (by simpa using hjl)
        simp only [List.getElem_map, strV] at f1
        have hdr := List.drop_eq_getElem_cons hjl
        have hsub2 := HSUB.out
        rw [hdr] at hsub2
        have HSUB2 := Lib.hid hsub2
        have HDR := Lib.hid hdr
        clear hsub2 HSUB hdr hcell1
        have hji : decide ((j : Int) < (V.length : Int)) = true := decide_eq_true (by omega)
        have hj0 : (0 : Int) ≤ (j : Int) := by omega
        have hj1 : (j : Int) < (V.length : Int) := by omega
        have hk0 : (0 : Int) ≤ (k : Int) := by omega
        generalize V[j] = y at *
        cases he : eqT (tv, tl) (true, y)
        all_goals
          go_wp2_with fail
          go_region_held3 (fun w' => w'.cell? ⟨w.heap.size, 3 + k * 2, none⟩ = some (.bool tv) ∧ w'.cell? ⟨w.heap.size, 3 + k * 2 + 1, none⟩ = some (.string ⟨tl.toArray⟩) ∧ w'.cell? ⟨b1, o1 + j, none⟩ = some (.string ⟨y.toArray⟩))
            (first | (refine ⟨?_, ?_, ?_⟩ <;> assumption) | (go_split_ands; refine ⟨?_, ?_, ?_⟩ <;> (refine Since.cell hb ?_; assumption)))
            (first | (go_at_call 25; ((with_reducible refine (kV_any y _).mono ?_); rintro e w5 ⟨rfl, hb⟩)))
          go_wp2_with fail
          go_roundw
          case measure => simp [intOf]; omega
        · exact ⟨k + 1, j, by omega, by omega, by go_num, rfl, (by
            have h3 := sub_miss HSUB2.out he
            rw [← HDR.out] at h3
            exact h3), hSr.drew.trans hb⟩
        · exact ⟨k + 1, j + 1, by omega, by omega, by go_num, by go_num, sub_hit HSUB2.out he, hSr.drew.trans hb⟩
      · have hji : decide ((j : Int) < (V.length : Int)) = false := decide_eq_false (by omega)
        go_wp2_with fail
        go_quiet (fail)
        go_wp2_with fail
        go_roundw
        case rel => exact ⟨k + 1, j, by omega, by omega, by go_num, rfl, (by
          show List.Sublist _ _
          rw [List.drop_eq_nil_of_le (by omega)]; simp), hSr.drewN _⟩
        case measure => simp [intOf]; omega
    · have hjV : j = V.length := by
        have h1 := hsub.out
        have h0 : (L.take 2).drop k = [] := List.drop_eq_nil_of_le (by rw [List.length_take]; omega)
        rw [h0] at h1
        have h2 := h1.length_le
        simp only [List.length_map, List.length_drop, List.length_nil] at h2
        omega
      subst hjV
      obtain rfl : k = 2 := by omega
      clear hsub hlt hk hj hR1 hargs hl4 hL
      have hE2 := hE.next hSr
      have hS2 := hS.trans hSr
      have a_B2 := a_B.next hSr
      replace x_c0 := hSr.cell x_c0
      replace x_c1 := hSr.cell x_c1
      clear a_c0 a_c1 a_c2 a_c3 a_c4 a_c5 a_c6 a_c7 a_c8 a_c9 a_c10 a_B hE hS
      obtain ⟨a_c0, a_c1, a_c2, a_c3, a_c4, a_c5, a_c6, a_c7, a_c8, a_c9, a_c10⟩ := a_B2.all
      have hz1 : w.heap.size < wr.heap.size := World.block_lt_of_cell? wr _ a_c0
      have hz2 : w.heap.size + 1 < wr.heap.size := World.block_lt_of_cell? wr _ x_c0
      clear d2 hSr
      obtain ⟨R, hR⟩ : ∃ R, Hid (R = textA ((a_s, a_p, 3, (a_v0, a_l0), (a_v1, a_l1), (xv, xl), (a_v3, a_l3)) : Atm)) := ⟨_, rfl⟩
      have hBL : Light ((a_s, a_p, 3, (a_v0, a_l0), (a_v1, a_l1), (xv, xl), (a_v3, a_l3)) : Atm) := by
        refine ⟨HLA.out.1, HLA.out.2.1, fun t ht => ?_⟩
        have h3 := HLA.out.2.2
        have ht' : t ∈ [(a_v0, a_l0), (a_v1, a_l1), (xv, xl), (a_v3, a_l3)] := ht
        have h3' : ∀ t ∈ [(a_v0, a_l0), (a_v1, a_l1), (a_v2, a_l2), (a_v3, a_l3)], t.2.length ≤ 300 := h3
        simp only [List.mem_cons, List.not_mem_nil, or_false] at ht' h3'
        rcases ht' with rfl | rfl | rfl | rfl <;> first | exact fx | exact h3' _ (by simp)
      have HTB : Hid (∀ W, Calls Tryd.prog 23 #[.agg #[.string ⟨a_s.toArray⟩, .string ⟨a_p.toArray⟩, .int .i64 3, .bool a_v0, .string ⟨a_l0.toArray⟩, .bool a_v1, .string ⟨a_l1.toArray⟩, .bool xv, .string ⟨xl.toArray⟩, .bool a_v3, .string ⟨a_l3.toArray⟩]] W fun e w' => e = .returned (.string ⟨R.toArray⟩) ∧ Since W w') := by
        intro W; rw [hR.out]; exact text_any a_s a_p 3 a_v0 a_v1 xv a_v3 a_l0 a_l1 xl a_l3 W hBL
      clear hBL
      obtain ⟨Q, hQ⟩ : ∃ Q, Hid (S = Q ++ [41]) := by
        refine ⟨F ++ ([40] ++ Lib.join (namesOf ((a_s, a_p, (2 : Int), (a_v0, a_l0), (a_v1, a_l1), (a_v2, a_l2), (a_v3, a_l3)) : Atm)) [44, 32]), ?_⟩
        show _ = _
        rw [hS1.out, textA, hF.out, if_neg (by show ¬ (min (max (2 : Int) 0) 4).toNat = 0; decide)]; simp
      obtain ⟨X1, hX1⟩ : ∃ X, Hid (X = Q ++ [44, 32]) := ⟨Q ++ [44, 32], rfl⟩
      obtain ⟨X2, hX2⟩ : ∃ X, Hid (X = X1 ++ xl) := ⟨_, rfl⟩
      have hQl : S.length = Q.length + 1 := by rw [hQ.out]; simp
      have hRX : R = X2 ++ [41] := by
        have e1 : S = F ++ ([40] ++ (Lib.join (namesOf ((a_s, a_p, (2 : Int), (a_v0, a_l0), (a_v1, a_l1), (a_v2, a_l2), (a_v3, a_l3)) : Atm)) [44, 32] ++ [41])) := by
          rw [hS1.out, textA, hF.out, if_neg (by show ¬ (min (max (2 : Int) 0) 4).toNat = 0; decide)]
        have e2 : Q = F ++ ([40] ++ Lib.join (namesOf ((a_s, a_p, (2 : Int), (a_v0, a_l0), (a_v1, a_l1), (a_v2, a_l2), (a_v3, a_l3)) : Atm)) [44, 32]) := by
          have := hQ.out
          rw [e1] at this
          have h3 : (F ++ ([40] ++ Lib.join (namesOf ((a_s, a_p, (2 : Int), (a_v0, a_l0), (a_v1, a_l1), (a_v2, a_l2), (a_v3, a_l3)) : Atm)) [44, 32])) ++ [41] = Q ++ [41] := by rw [← this]; simp
          exact (List.append_cancel_right h3).symm
        rw [hR.out, hX2.out, hX1.out, e2, hF.out, textA, if_neg (by show ¬ (min (max (3 : Int) 0) 4).toNat = 0; decide)]
        show frontA _ ++ ([40] ++ (Lib.join (namesOf ((a_s, a_p, (2 : Int), (a_v0, a_l0), (a_v1, a_l1), (a_v2, a_l2), (a_v3, a_l3)) : Atm) ++ [xl]) [44, 32] ++ [41])) = _
        rw [join_snoc _ _ (names_ne (by show ¬ (min (max (2 : Int) 0) 4).toNat = 0; decide))]
        simp [frontA]
      have hcut2 := fun W => run_cut hQ.out W
      have hw : IntKind.i64.wrap ((S.length : Int) - 1) = (Q.length : Int) := by rw [IntWalk.i64_in _ (by omega)]; omega
      have d1 : ByteArray.mk Q.toArray ++ ByteArray.mk #[44, 32] = ByteArray.mk X1.toArray := by rw [hX1.out]; exact cat_bytes Q [44, 32]
      have d2 : ByteArray.mk X1.toArray ++ ByteArray.mk xl.toArray = ByteArray.mk X2.toArray := by rw [hX2.out]; exact cat_bytes X1 xl
      have d3 : ByteArray.mk X2.toArray ++ ByteArray.mk #[41] = ByteArray.mk R.toArray := by rw [hRX]; exact cat_bytes X2 [41]
      have l0 : Q.length ≤ 3000 := by omega
      have l1 : X1.length ≤ 4000 := by rw [hX1.out]; simp; omega
      have l2 : X2.length ≤ 5000 := by rw [hX2.out]; simp; omega
      have HQL := Lib.hid hQl
      clear hRX hQl
      go_wp2_with (first | (go_at_call 23; ((with_reducible refine (HTB.out _).mono ?_); rintro e w5 ⟨rfl, hb⟩; replace x_c1 := hb.cell (((Since.refl wr).alloc _).cell x_c1); replace a_c2 := hb.cell (((Since.refl wr).alloc _).cell a_c2))))
      go_quiet (fail)
      go_wp2_with fail
      go_ret
      exact ⟨rfl, ((hS2.alloc _).trans hb).drewN _⟩

set_option maxHeartbeats 4000000 in
set_option maxRecDepth 100000 in
theorem texts_3 (a_s a_p : List UInt8) (a_v0 a_v1 a_v2 a_v3 : Bool) (a_l0 a_l1 a_l2 a_l3 : List UInt8) (xv : Bool) (xl : List UInt8) (w : World) (hE : Env w) (fa : FitsA ((a_s, a_p, (3 : Int), (a_v0, a_l0), (a_v1, a_l1), (a_v2, a_l2), (a_v3, a_l3)) : Atm)) (fx : xl.length ≤ 300) (la : lightB ((a_s, a_p, (3 : Int), (a_v0, a_l0), (a_v1, a_l1), (a_v2, a_l2), (a_v3, a_l3)) : Atm) = true) (ka : (checkA ((a_s, a_p, (3 : Int), (a_v0, a_l0), (a_v1, a_l1), (a_v2, a_l2), (a_v3, a_l3)) : Atm) != 0) = false) (kx : termB (xv, xl) = true) :
    Calls Tryd.prog 5 #[.agg #[.string ⟨a_s.toArray⟩, .string ⟨a_p.toArray⟩, .int .i64 3, .bool a_v0, .string ⟨a_l0.toArray⟩, .bool a_v1, .string ⟨a_l1.toArray⟩, .bool a_v2, .string ⟨a_l2.toArray⟩, .bool a_v3, .string ⟨a_l3.toArray⟩], .agg #[.bool xv, .string ⟨xl.toArray⟩]] w fun e w' => e = .returned (.bool true) ∧ Since w w' := by
  have hS : Since w ((w.alloc (.cells #[.string ⟨a_s.toArray⟩, .string ⟨a_p.toArray⟩, .int .i64 3, .bool a_v0, .string ⟨a_l0.toArray⟩, .bool a_v1, .string ⟨a_l1.toArray⟩, .bool a_v2, .string ⟨a_l2.toArray⟩, .bool a_v3, .string ⟨a_l3.toArray⟩] 26)).alloc (.cells #[.bool xv, .string ⟨xl.toArray⟩] 23)) := ((Since.refl _).alloc _).alloc _
  have a_B : Box ((w.alloc (.cells #[.string ⟨a_s.toArray⟩, .string ⟨a_p.toArray⟩, .int .i64 3, .bool a_v0, .string ⟨a_l0.toArray⟩, .bool a_v1, .string ⟨a_l1.toArray⟩, .bool a_v2, .string ⟨a_l2.toArray⟩, .bool a_v3, .string ⟨a_l3.toArray⟩] 26)).alloc (.cells #[.bool xv, .string ⟨xl.toArray⟩] 23)) w.heap.size ((a_s, a_p, (3 : Int), (a_v0, a_l0), (a_v1, a_l1), (a_v2, a_l2), (a_v3, a_l3)) : Atm) := (box_new w ((a_s, a_p, (3 : Int), (a_v0, a_l0), (a_v1, a_l1), (a_v2, a_l2), (a_v3, a_l3)) : Atm) _).next ((Since.refl _).alloc _)
  have x_c0 : ((w.alloc (.cells #[.string ⟨a_s.toArray⟩, .string ⟨a_p.toArray⟩, .int .i64 3, .bool a_v0, .string ⟨a_l0.toArray⟩, .bool a_v1, .string ⟨a_l1.toArray⟩, .bool a_v2, .string ⟨a_l2.toArray⟩, .bool a_v3, .string ⟨a_l3.toArray⟩] 26)).alloc (.cells #[.bool xv, .string ⟨xl.toArray⟩] 23)).cell? ⟨w.heap.size + 1, 0, none⟩ = some (.bool xv) := by
    have := World.cell?_alloc_new (w.alloc (.cells #[.string ⟨a_s.toArray⟩, .string ⟨a_p.toArray⟩, .int .i64 3, .bool a_v0, .string ⟨a_l0.toArray⟩, .bool a_v1, .string ⟨a_l1.toArray⟩, .bool a_v2, .string ⟨a_l2.toArray⟩, .bool a_v3, .string ⟨a_l3.toArray⟩] 26)) #[.bool xv, .string ⟨xl.toArray⟩] 23 0
    rw [World.size_alloc] at this; rw [this]; rfl
  have x_c1 : ((w.alloc (.cells #[.string ⟨a_s.toArray⟩, .string ⟨a_p.toArray⟩, .int .i64 3, .bool a_v0, .string ⟨a_l0.toArray⟩, .bool a_v1, .string ⟨a_l1.toArray⟩, .bool a_v2, .string ⟨a_l2.toArray⟩, .bool a_v3, .string ⟨a_l3.toArray⟩] 26)).alloc (.cells #[.bool xv, .string ⟨xl.toArray⟩] 23)).cell? ⟨w.heap.size + 1, 1, none⟩ = some (.string ⟨xl.toArray⟩) := by
    have := World.cell?_alloc_new (w.alloc (.cells #[.string ⟨a_s.toArray⟩, .string ⟨a_p.toArray⟩, .int .i64 3, .bool a_v0, .string ⟨a_l0.toArray⟩, .bool a_v1, .string ⟨a_l1.toArray⟩, .bool a_v2, .string ⟨a_l2.toArray⟩, .bool a_v3, .string ⟨a_l3.toArray⟩] 26)) #[.bool xv, .string ⟨xl.toArray⟩] 23 1
    rw [World.size_alloc] at this; rw [this]; rfl
  obtain ⟨a_c0, a_c1, a_c2, a_c3, a_c4, a_c5, a_c6, a_c7, a_c8, a_c9, a_c10⟩ := a_B.all
  replace hE := hE.next hS
  have HFA := Lib.hid fa
  have hLa := light_of la
  have HLA := Lib.hid hLa
  have hX : (xl.length : Int) ≤ 300 := by omega
  obtain ⟨F, hF⟩ : ∃ F, Hid (F = frontA ((a_s, a_p, (3 : Int), (a_v0, a_l0), (a_v1, a_l1), (a_v2, a_l2), (a_v3, a_l3)) : Atm)) := ⟨_, rfl⟩
  obtain ⟨U, hU⟩ : ∃ U, Hid (U = a_s ++ [32, 115, 97, 121, 115, 32]) := ⟨a_s ++ [32, 115, 97, 121, 115, 32], rfl⟩
  have c1 : ByteArray.mk a_s.toArray ++ ByteArray.mk #[32, 115, 97, 121, 115, 32] = ByteArray.mk U.toArray := by rw [hU.out]; exact cat_bytes a_s [32, 115, 97, 121, 115, 32]
  have c2 : ByteArray.mk U.toArray ++ ByteArray.mk a_p.toArray = ByteArray.mk F.toArray := by rw [hU.out, hF.out, cat_bytes, frontA, List.append_assoc]
  have f1 : a_s.length ≤ 300 := hLa.1
  have f2 : a_p.length ≤ 300 := hLa.2.1
  have hUl : U.length ≤ 400 := by rw [hU.out]; simp; omega
  have hFl : F.length ≤ 800 := by
    rw [hF.out]; show (a_s ++ ([32, 115, 97, 121, 115, 32] ++ a_p)).length ≤ 800
    simp; omega
  obtain ⟨S, hS1⟩ : ∃ S, Hid (S = textA ((a_s, a_p, (3 : Int), (a_v0, a_l0), (a_v1, a_l1), (a_v2, a_l2), (a_v3, a_l3)) : Atm)) := ⟨_, rfl⟩
  have hSl : S.length ≤ 3000 := by rw [hS1.out]; exact text_len hLa (by decide)
  obtain ⟨T, hT⟩ : ∃ T, Hid (S = F ++ T) := ⟨_, by show _ = _; rw [hS1.out, textA, hF.out]⟩
  have hlt : decide ((S.length : Int) < (F.length : Int)) = false := decide_eq_false (by rw [hT.out]; simp; omega)
  have hcut := run_cut hT.out
  have HTA : Hid (∀ W, Calls Tryd.prog 23 #[.agg #[.string ⟨a_s.toArray⟩, .string ⟨a_p.toArray⟩, .int .i64 3, .bool a_v0, .string ⟨a_l0.toArray⟩, .bool a_v1, .string ⟨a_l1.toArray⟩, .bool a_v2, .string ⟨a_l2.toArray⟩, .bool a_v3, .string ⟨a_l3.toArray⟩]] W fun e w' => e = .returned (.string ⟨S.toArray⟩) ∧ Since W w') := by
    intro W; rw [hS1.out]; exact text_any a_s a_p (3 : Int) a_v0 a_v1 a_v2 a_v3 a_l0 a_l1 a_l2 a_l3 W HLA.out
  have heF : (S == F) = false := by
    rw [beq_eq_false_iff_ne, hS1.out, hF.out, textA, if_neg (by show ¬ (min (max (3 : Int) 0) 4).toNat = 0; decide)]
    intro h
    have := congrArg List.length h
    simp only [List.length_append, List.length_cons] at this
    omega
  have hFS : F.length ≤ S.length := by rw [hT.out]; simp
  have h300 : decide ((300 : Int) < (xl.length : Int)) = false := decide_eq_false (by omega)
  clear fa hLa
  go_enter Tryd.func5, Tryd.ntmps5
  go_wp2_with (first
    | (go_at_call 18; refine (lives03_any _ hE).mono ?_; rintro e w1 ⟨rfl, hb⟩; replace hE := hE.next hb; replace hS := hS.trans hb; replace a_B := a_B.next hb; replace a_c0 := hb.cell a_c0; replace a_c1 := hb.cell a_c1; replace a_c2 := hb.cell a_c2; replace a_c3 := hb.cell a_c3; replace a_c4 := hb.cell a_c4; replace a_c5 := hb.cell a_c5; replace a_c6 := hb.cell a_c6; replace a_c7 := hb.cell a_c7; replace a_c8 := hb.cell a_c8; replace a_c9 := hb.cell a_c9; replace a_c10 := hb.cell a_c10; replace x_c0 := hb.cell x_c0; replace x_c1 := hb.cell x_c1)
    | (go_at_call 12; ((with_reducible refine (light_any a_s a_p (3 : Int) a_v0 a_v1 a_v2 a_v3 a_l0 a_l1 a_l2 a_l3 _).mono ?_); rintro e w1 ⟨rfl, hb⟩; rw [la]; replace hE := hE.next hb; replace hS := hS.trans hb; replace a_B := a_B.next hb; replace a_c0 := hb.cell a_c0; replace a_c1 := hb.cell a_c1; replace a_c2 := hb.cell a_c2; replace a_c3 := hb.cell a_c3; replace a_c4 := hb.cell a_c4; replace a_c5 := hb.cell a_c5; replace a_c6 := hb.cell a_c6; replace a_c7 := hb.cell a_c7; replace a_c8 := hb.cell a_c8; replace a_c9 := hb.cell a_c9; replace a_c10 := hb.cell a_c10; replace x_c0 := hb.cell x_c0; replace x_c1 := hb.cell x_c1))
    | (go_at_call 21; ((with_reducible refine (check_any a_s a_p (3 : Int) a_v0 a_v1 a_v2 a_v3 a_l0 a_l1 a_l2 a_l3 _ HFA.out hE).mono ?_); rintro e w1 ⟨rfl, hb⟩; replace hE := hE.next hb; replace hS := hS.trans hb; replace a_B := a_B.next hb; replace a_c0 := hb.cell a_c0; replace a_c1 := hb.cell a_c1; replace a_c2 := hb.cell a_c2; replace a_c3 := hb.cell a_c3; replace a_c4 := hb.cell a_c4; replace a_c5 := hb.cell a_c5; replace a_c6 := hb.cell a_c6; replace a_c7 := hb.cell a_c7; replace a_c8 := hb.cell a_c8; replace a_c9 := hb.cell a_c9; replace a_c10 := hb.cell a_c10; replace x_c0 := hb.cell x_c0; replace x_c1 := hb.cell x_c1))
    | (go_at_call 22; ((with_reducible refine (term_any xv xl _ (by unfold maxLen; omega) hE).mono ?_); rintro e w1 ⟨rfl, hb⟩; rw [kx]; replace hE := hE.next hb; replace hS := hS.trans hb; replace a_B := a_B.next hb; replace a_c0 := hb.cell a_c0; replace a_c1 := hb.cell a_c1; replace a_c2 := hb.cell a_c2; replace a_c3 := hb.cell a_c3; replace a_c4 := hb.cell a_c4; replace a_c5 := hb.cell a_c5; replace a_c6 := hb.cell a_c6; replace a_c7 := hb.cell a_c7; replace a_c8 := hb.cell a_c8; replace a_c9 := hb.cell a_c9; replace a_c10 := hb.cell a_c10; replace x_c0 := hb.cell x_c0; replace x_c1 := hb.cell x_c1))
    | (go_at_call 23; ((with_reducible refine (HTA.out _).mono ?_); rintro e w1 ⟨rfl, hb⟩; replace hE := hE.next hb; replace hS := hS.trans hb; replace a_B := a_B.next hb; replace a_c0 := hb.cell a_c0; replace a_c1 := hb.cell a_c1; replace a_c2 := hb.cell a_c2; replace a_c3 := hb.cell a_c3; replace a_c4 := hb.cell a_c4; replace a_c5 := hb.cell a_c5; replace a_c6 := hb.cell a_c6; replace a_c7 := hb.cell a_c7; replace a_c8 := hb.cell a_c8; replace a_c9 := hb.cell a_c9; replace a_c10 := hb.cell a_c10; replace x_c0 := hb.cell x_c0; replace x_c1 := hb.cell x_c1))
    | (go_at_call 24; ((with_reducible refine (vars_any a_s a_p (3 : Int) a_v0 a_v1 a_v2 a_v3 a_l0 a_l1 a_l2 a_l3 _).mono ?_); rintro e w1 ⟨v1, rfl, hown1, hb⟩; replace hE := hE.next hb; replace hS := hS.trans hb; replace a_B := a_B.next hb; replace a_c0 := hb.cell a_c0; replace a_c1 := hb.cell a_c1; replace a_c2 := hb.cell a_c2; replace a_c3 := hb.cell a_c3; replace a_c4 := hb.cell a_c4; replace a_c5 := hb.cell a_c5; replace a_c6 := hb.cell a_c6; replace a_c7 := hb.cell a_c7; replace a_c8 := hb.cell a_c8; replace a_c9 := hb.cell a_c9; replace a_c10 := hb.cell a_c10; replace x_c0 := hb.cell x_c0; replace x_c1 := hb.cell x_c1)))
  clear c1 c2 hcut hlt hFS h300 heF
  have hR1 := row_of_own hown1
  clear hown1 hb
  obtain ⟨V, hV⟩ : ∃ V, Hid (V = namesA ((a_s, a_p, (3 : Int), (a_v0, a_l0), (a_v1, a_l1), (a_v2, a_l2), (a_v3, a_l3)) : Atm) true) := ⟨_, rfl⟩
  rw [← hV.out] at hR1
  obtain ⟨a1, c1, rfl⟩ := hR1.len
  obtain ⟨L, hL⟩ : ∃ L, Hid (L = argsL ((a_s, a_p, (3 : Int), (a_v0, a_l0), (a_v1, a_l1), (a_v2, a_l2), (a_v3, a_l3)) : Atm)) := ⟨argsL ((a_s, a_p, (3 : Int), (a_v0, a_l0), (a_v1, a_l1), (a_v2, a_l2), (a_v3, a_l3)) : Atm), rfl⟩
  have hl4 : Hid (L.length = 4) := by show _ = _; rw [hL.out]; rfl
  have hargs := a_B.args
  rw [← hL.out] at hargs
  have hsub : Hid (((V.drop 0).map fun y => ((true, y) : Tm)).Sublist ((L.take 3).drop 0)) := by
    show List.Sublist _ _
    rw [hL.out, hV.out]
    obtain ⟨s, h1, h2⟩ := namesF_split true ((argsL ((a_s, a_p, (3 : Int), (a_v0, a_l0), (a_v1, a_l1), (a_v2, a_l2), (a_v3, a_l3)) : Atm)).take (countA ((a_s, a_p, (3 : Int), (a_v0, a_l0), (a_v1, a_l1), (a_v2, a_l2), (a_v3, a_l3)) : Atm))) []
    rw [namesA, h1]
    exact h2
  have hV4 : V.length ≤ 4 := by
    have h1 := names_len ((a_s, a_p, (3 : Int), (a_v0, a_l0), (a_v1, a_l1), (a_v2, a_l2), (a_v3, a_l3)) : Atm)
    have h2 := countA_le ((a_s, a_p, (3 : Int), (a_v0, a_l0), (a_v1, a_l1), (a_v2, a_l2), (a_v3, a_l3)) : Atm)
    rw [← hV.out] at h1
    omega
  go_loopw [8, 9] (fun at_ i wr => ∃ (k j : Nat), k ≤ 3 ∧ j ≤ V.length ∧ i = .int .i64 k ∧ at_ = .int .i64 j ∧ Hid (((V.drop j).map fun y => ((true, y) : Tm)).Sublist ((L.take 3).drop k)) ∧ Since w1 wr) (fun _ i _ => 3 - (intOf i).toNat)
  case atStart => exact ⟨0, 0, by omega, by omega, rfl, rfl, hsub, Since.refl _⟩
  case round =>
    clear hsub
    obtain ⟨k, j, hk, hj, rfl, rfl, hsub, hSr⟩ := hrel
    have d2 := hSr.cell a_c2
    by_cases hlt : k < 3
    · have hkL : k < L.length := by rw [hl4.out]; omega
      obtain ⟨d3, d4⟩ := (hargs.next hSr).2 k hkL
      have hst := take_drop_step (n := 3) hkL hlt
      have hsub' := hsub.out
      rw [hst] at hsub'
      have HSUB := Lib.hid hsub'
      clear hsub hsub' hst
      have hk4 : (k : Int) < 4 := by omega
      generalize L[k] = t at *
      obtain ⟨tv, tl⟩ := t
      by_cases hjl : j < V.length
      · obtain ⟨b1, o1, c1', e1, hc1, hcell1⟩ := (hR1.next hSr).some (by omega)
        injection e1 with e1 _ e1'
        subst e1 e1'
        have f1 := hcell1 j (by simpa using hjl)
        simp only [List.getElem_map, strV] at f1
        have hdr := List.drop_eq_getElem_cons hjl
        have hsub2 := HSUB.out
        rw [hdr] at hsub2
        have HSUB2 := Lib.hid hsub2
        have HDR := Lib.hid hdr
        clear hsub2 HSUB hdr hcell1
        have hji : decide ((j : Int) < (V.length : Int)) = true := decide_eq_true (by omega)
        have hj0 : (0 : Int) ≤ (j : Int) := by omega
        have hj1 : (j : Int) < (V.length : Int) := by omega
        have hk0 : (0 : Int) ≤ (k : Int) := by omega
        generalize V[j] = y at *
        cases he : eqT (tv, tl) (true, y)
        all_goals
          go_wp2_with fail
          go_region_held3 (fun w' => w'.cell? ⟨w.heap.size, 3 + k * 2, none⟩ = some (.bool tv) ∧ w'.cell? ⟨w.heap.size, 3 + k * 2 + 1, none⟩ = some (.string ⟨tl.toArray⟩) ∧ w'.cell? ⟨b1, o1 + j, none⟩ = some (.string ⟨y.toArray⟩))
            (first | (refine ⟨?_, ?_, ?_⟩ <;> assumption) | (go_split_ands; refine ⟨?_, ?_, ?_⟩ <;> (refine Since.cell hb ?_; assumption)))
            (first | (go_at_call 25; ((with_reducible refine (kV_any y _).mono ?_); rintro e w5 ⟨rfl, hb⟩)))
          go_wp2_with fail
          go_roundw
          case measure => simp [intOf]; omega
        · exact ⟨k + 1, j, by omega, by omega, by go_num, rfl, (by
            have h3 := sub_miss HSUB2.out he
            rw [← HDR.out] at h3
            exact h3), hSr.drew.trans hb⟩
        · exact ⟨k + 1, j + 1, by omega, by omega, by go_num, by go_num, sub_hit HSUB2.out he, hSr.drew.trans hb⟩
      · have hji : decide ((j : Int) < (V.length : Int)) = false := decide_eq_false (by omega)
        go_wp2_with fail
        go_quiet (fail)
        go_wp2_with fail
        go_roundw
        case rel => exact ⟨k + 1, j, by omega, by omega, by go_num, rfl, (by
          show List.Sublist _ _
          rw [List.drop_eq_nil_of_le (by omega)]; simp), hSr.drewN _⟩
        case measure => simp [intOf]; omega
    · have hjV : j = V.length := by
        have h1 := hsub.out
        have h0 : (L.take 3).drop k = [] := List.drop_eq_nil_of_le (by rw [List.length_take]; omega)
        rw [h0] at h1
        have h2 := h1.length_le
        simp only [List.length_map, List.length_drop, List.length_nil] at h2
        omega
      subst hjV
      obtain rfl : k = 3 := by omega
      clear hsub hlt hk hj hR1 hargs hl4 hL
      have hE2 := hE.next hSr
      have hS2 := hS.trans hSr
      have a_B2 := a_B.next hSr
      replace x_c0 := hSr.cell x_c0
      replace x_c1 := hSr.cell x_c1
      clear a_c0 a_c1 a_c2 a_c3 a_c4 a_c5 a_c6 a_c7 a_c8 a_c9 a_c10 a_B hE hS
      obtain ⟨a_c0, a_c1, a_c2, a_c3, a_c4, a_c5, a_c6, a_c7, a_c8, a_c9, a_c10⟩ := a_B2.all
      have hz1 : w.heap.size < wr.heap.size := World.block_lt_of_cell? wr _ a_c0
      have hz2 : w.heap.size + 1 < wr.heap.size := World.block_lt_of_cell? wr _ x_c0
      clear d2 hSr
      obtain ⟨R, hR⟩ : ∃ R, Hid (R = textA ((a_s, a_p, 4, (a_v0, a_l0), (a_v1, a_l1), (a_v2, a_l2), (xv, xl)) : Atm)) := ⟨_, rfl⟩
      have hBL : Light ((a_s, a_p, 4, (a_v0, a_l0), (a_v1, a_l1), (a_v2, a_l2), (xv, xl)) : Atm) := by
        refine ⟨HLA.out.1, HLA.out.2.1, fun t ht => ?_⟩
        have h3 := HLA.out.2.2
        have ht' : t ∈ [(a_v0, a_l0), (a_v1, a_l1), (a_v2, a_l2), (xv, xl)] := ht
        have h3' : ∀ t ∈ [(a_v0, a_l0), (a_v1, a_l1), (a_v2, a_l2), (a_v3, a_l3)], t.2.length ≤ 300 := h3
        simp only [List.mem_cons, List.not_mem_nil, or_false] at ht' h3'
        rcases ht' with rfl | rfl | rfl | rfl <;> first | exact fx | exact h3' _ (by simp)
      have HTB : Hid (∀ W, Calls Tryd.prog 23 #[.agg #[.string ⟨a_s.toArray⟩, .string ⟨a_p.toArray⟩, .int .i64 4, .bool a_v0, .string ⟨a_l0.toArray⟩, .bool a_v1, .string ⟨a_l1.toArray⟩, .bool a_v2, .string ⟨a_l2.toArray⟩, .bool xv, .string ⟨xl.toArray⟩]] W fun e w' => e = .returned (.string ⟨R.toArray⟩) ∧ Since W w') := by
        intro W; rw [hR.out]; exact text_any a_s a_p 4 a_v0 a_v1 a_v2 xv a_l0 a_l1 a_l2 xl W hBL
      clear hBL
      obtain ⟨Q, hQ⟩ : ∃ Q, Hid (S = Q ++ [41]) := by
        refine ⟨F ++ ([40] ++ Lib.join (namesOf ((a_s, a_p, (3 : Int), (a_v0, a_l0), (a_v1, a_l1), (a_v2, a_l2), (a_v3, a_l3)) : Atm)) [44, 32]), ?_⟩
        show _ = _
        rw [hS1.out, textA, hF.out, if_neg (by show ¬ (min (max (3 : Int) 0) 4).toNat = 0; decide)]; simp
      obtain ⟨X1, hX1⟩ : ∃ X, Hid (X = Q ++ [44, 32]) := ⟨Q ++ [44, 32], rfl⟩
      obtain ⟨X2, hX2⟩ : ∃ X, Hid (X = X1 ++ xl) := ⟨_, rfl⟩
      have hQl : S.length = Q.length + 1 := by rw [hQ.out]; simp
      have hRX : R = X2 ++ [41] := by
        have e1 : S = F ++ ([40] ++ (Lib.join (namesOf ((a_s, a_p, (3 : Int), (a_v0, a_l0), (a_v1, a_l1), (a_v2, a_l2), (a_v3, a_l3)) : Atm)) [44, 32] ++ [41])) := by
          rw [hS1.out, textA, hF.out, if_neg (by show ¬ (min (max (3 : Int) 0) 4).toNat = 0; decide)]
        have e2 : Q = F ++ ([40] ++ Lib.join (namesOf ((a_s, a_p, (3 : Int), (a_v0, a_l0), (a_v1, a_l1), (a_v2, a_l2), (a_v3, a_l3)) : Atm)) [44, 32]) := by
          have := hQ.out
          rw [e1] at this
          have h3 : (F ++ ([40] ++ Lib.join (namesOf ((a_s, a_p, (3 : Int), (a_v0, a_l0), (a_v1, a_l1), (a_v2, a_l2), (a_v3, a_l3)) : Atm)) [44, 32])) ++ [41] = Q ++ [41] := by rw [← this]; simp
          exact (List.append_cancel_right h3).symm
        rw [hR.out, hX2.out, hX1.out, e2, hF.out, textA, if_neg (by show ¬ (min (max (4 : Int) 0) 4).toNat = 0; decide)]
        show frontA _ ++ ([40] ++ (Lib.join (namesOf ((a_s, a_p, (3 : Int), (a_v0, a_l0), (a_v1, a_l1), (a_v2, a_l2), (a_v3, a_l3)) : Atm) ++ [xl]) [44, 32] ++ [41])) = _
        rw [join_snoc _ _ (names_ne (by show ¬ (min (max (3 : Int) 0) 4).toNat = 0; decide))]
        simp [frontA]
      have hcut2 := fun W => run_cut hQ.out W
      have hw : IntKind.i64.wrap ((S.length : Int) - 1) = (Q.length : Int) := by rw [IntWalk.i64_in _ (by omega)]; omega
      have d1 : ByteArray.mk Q.toArray ++ ByteArray.mk #[44, 32] = ByteArray.mk X1.toArray := by rw [hX1.out]; exact cat_bytes Q [44, 32]
      have d2 : ByteArray.mk X1.toArray ++ ByteArray.mk xl.toArray = ByteArray.mk X2.toArray := by rw [hX2.out]; exact cat_bytes X1 xl
      have d3 : ByteArray.mk X2.toArray ++ ByteArray.mk #[41] = ByteArray.mk R.toArray := by rw [hRX]; exact cat_bytes X2 [41]
      have l0 : Q.length ≤ 3000 := by omega
      have l1 : X1.length ≤ 4000 := by rw [hX1.out]; simp; omega
      have l2 : X2.length ≤ 5000 := by rw [hX2.out]; simp; omega
      have HQL := Lib.hid hQl
      clear hRX hQl
      go_wp2_with (first | (go_at_call 23; ((with_reducible refine (HTB.out _).mono ?_); rintro e w5 ⟨rfl, hb⟩; replace x_c1 := hb.cell (((Since.refl wr).alloc _).cell x_c1); replace a_c2 := hb.cell (((Since.refl wr).alloc _).cell a_c2))))
      go_quiet (fail)
      go_wp2_with fail
      go_ret
      exact ⟨rfl, ((hS2.alloc _).trans hb).drewN _⟩

set_option maxHeartbeats 4000000 in
set_option maxRecDepth 100000 in
theorem texts_4 (a_s a_p : List UInt8) (a_v0 a_v1 a_v2 a_v3 : Bool) (a_l0 a_l1 a_l2 a_l3 : List UInt8) (xv : Bool) (xl : List UInt8) (w : World) (hE : Env w) (fa : FitsA ((a_s, a_p, (4 : Int), (a_v0, a_l0), (a_v1, a_l1), (a_v2, a_l2), (a_v3, a_l3)) : Atm)) (fx : xl.length ≤ 300) (la : lightB ((a_s, a_p, (4 : Int), (a_v0, a_l0), (a_v1, a_l1), (a_v2, a_l2), (a_v3, a_l3)) : Atm) = true) (ka : (checkA ((a_s, a_p, (4 : Int), (a_v0, a_l0), (a_v1, a_l1), (a_v2, a_l2), (a_v3, a_l3)) : Atm) != 0) = false) (kx : termB (xv, xl) = true) :
    Calls Tryd.prog 5 #[.agg #[.string ⟨a_s.toArray⟩, .string ⟨a_p.toArray⟩, .int .i64 4, .bool a_v0, .string ⟨a_l0.toArray⟩, .bool a_v1, .string ⟨a_l1.toArray⟩, .bool a_v2, .string ⟨a_l2.toArray⟩, .bool a_v3, .string ⟨a_l3.toArray⟩], .agg #[.bool xv, .string ⟨xl.toArray⟩]] w fun e w' => e = .returned (.bool true) ∧ Since w w' := by
  have hS : Since w ((w.alloc (.cells #[.string ⟨a_s.toArray⟩, .string ⟨a_p.toArray⟩, .int .i64 4, .bool a_v0, .string ⟨a_l0.toArray⟩, .bool a_v1, .string ⟨a_l1.toArray⟩, .bool a_v2, .string ⟨a_l2.toArray⟩, .bool a_v3, .string ⟨a_l3.toArray⟩] 26)).alloc (.cells #[.bool xv, .string ⟨xl.toArray⟩] 23)) := ((Since.refl _).alloc _).alloc _
  have a_B : Box ((w.alloc (.cells #[.string ⟨a_s.toArray⟩, .string ⟨a_p.toArray⟩, .int .i64 4, .bool a_v0, .string ⟨a_l0.toArray⟩, .bool a_v1, .string ⟨a_l1.toArray⟩, .bool a_v2, .string ⟨a_l2.toArray⟩, .bool a_v3, .string ⟨a_l3.toArray⟩] 26)).alloc (.cells #[.bool xv, .string ⟨xl.toArray⟩] 23)) w.heap.size ((a_s, a_p, (4 : Int), (a_v0, a_l0), (a_v1, a_l1), (a_v2, a_l2), (a_v3, a_l3)) : Atm) := (box_new w ((a_s, a_p, (4 : Int), (a_v0, a_l0), (a_v1, a_l1), (a_v2, a_l2), (a_v3, a_l3)) : Atm) _).next ((Since.refl _).alloc _)
  have x_c0 : ((w.alloc (.cells #[.string ⟨a_s.toArray⟩, .string ⟨a_p.toArray⟩, .int .i64 4, .bool a_v0, .string ⟨a_l0.toArray⟩, .bool a_v1, .string ⟨a_l1.toArray⟩, .bool a_v2, .string ⟨a_l2.toArray⟩, .bool a_v3, .string ⟨a_l3.toArray⟩] 26)).alloc (.cells #[.bool xv, .string ⟨xl.toArray⟩] 23)).cell? ⟨w.heap.size + 1, 0, none⟩ = some (.bool xv) := by
    have := World.cell?_alloc_new (w.alloc (.cells #[.string ⟨a_s.toArray⟩, .string ⟨a_p.toArray⟩, .int .i64 4, .bool a_v0, .string ⟨a_l0.toArray⟩, .bool a_v1, .string ⟨a_l1.toArray⟩, .bool a_v2, .string ⟨a_l2.toArray⟩, .bool a_v3, .string ⟨a_l3.toArray⟩] 26)) #[.bool xv, .string ⟨xl.toArray⟩] 23 0
    rw [World.size_alloc] at this; rw [this]; rfl
  have x_c1 : ((w.alloc (.cells #[.string ⟨a_s.toArray⟩, .string ⟨a_p.toArray⟩, .int .i64 4, .bool a_v0, .string ⟨a_l0.toArray⟩, .bool a_v1, .string ⟨a_l1.toArray⟩, .bool a_v2, .string ⟨a_l2.toArray⟩, .bool a_v3, .string ⟨a_l3.toArray⟩] 26)).alloc (.cells #[.bool xv, .string ⟨xl.toArray⟩] 23)).cell? ⟨w.heap.size + 1, 1, none⟩ = some (.string ⟨xl.toArray⟩) := by
    have := World.cell?_alloc_new (w.alloc (.cells #[.string ⟨a_s.toArray⟩, .string ⟨a_p.toArray⟩, .int .i64 4, .bool a_v0, .string ⟨a_l0.toArray⟩, .bool a_v1, .string ⟨a_l1.toArray⟩, .bool a_v2, .string ⟨a_l2.toArray⟩, .bool a_v3, .string ⟨a_l3.toArray⟩] 26)) #[.bool xv, .string ⟨xl.toArray⟩] 23 1
    rw [World.size_alloc] at this; rw [this]; rfl
  obtain ⟨a_c0, a_c1, a_c2, a_c3, a_c4, a_c5, a_c6, a_c7, a_c8, a_c9, a_c10⟩ := a_B.all
  replace hE := hE.next hS
  have HFA := Lib.hid fa
  have hLa := light_of la
  have HLA := Lib.hid hLa
  have hX : (xl.length : Int) ≤ 300 := by omega
  obtain ⟨F, hF⟩ : ∃ F, Hid (F = frontA ((a_s, a_p, (4 : Int), (a_v0, a_l0), (a_v1, a_l1), (a_v2, a_l2), (a_v3, a_l3)) : Atm)) := ⟨_, rfl⟩
  obtain ⟨U, hU⟩ : ∃ U, Hid (U = a_s ++ [32, 115, 97, 121, 115, 32]) := ⟨a_s ++ [32, 115, 97, 121, 115, 32], rfl⟩
  have c1 : ByteArray.mk a_s.toArray ++ ByteArray.mk #[32, 115, 97, 121, 115, 32] = ByteArray.mk U.toArray := by rw [hU.out]; exact cat_bytes a_s [32, 115, 97, 121, 115, 32]
  have c2 : ByteArray.mk U.toArray ++ ByteArray.mk a_p.toArray = ByteArray.mk F.toArray := by rw [hU.out, hF.out, cat_bytes, frontA, List.append_assoc]
  have f1 : a_s.length ≤ 300 := hLa.1
  have f2 : a_p.length ≤ 300 := hLa.2.1
  have hUl : U.length ≤ 400 := by rw [hU.out]; simp; omega
  have hFl : F.length ≤ 800 := by
    rw [hF.out]; show (a_s ++ ([32, 115, 97, 121, 115, 32] ++ a_p)).length ≤ 800
    simp; omega
  obtain ⟨S, hS1⟩ : ∃ S, Hid (S = textA ((a_s, a_p, (4 : Int), (a_v0, a_l0), (a_v1, a_l1), (a_v2, a_l2), (a_v3, a_l3)) : Atm)) := ⟨_, rfl⟩
  have hSl : S.length ≤ 3000 := by rw [hS1.out]; exact text_len hLa (by decide)
  obtain ⟨T, hT⟩ : ∃ T, Hid (S = F ++ T) := ⟨_, by show _ = _; rw [hS1.out, textA, hF.out]⟩
  have hlt : decide ((S.length : Int) < (F.length : Int)) = false := decide_eq_false (by rw [hT.out]; simp; omega)
  have hcut := run_cut hT.out
  have HTA : Hid (∀ W, Calls Tryd.prog 23 #[.agg #[.string ⟨a_s.toArray⟩, .string ⟨a_p.toArray⟩, .int .i64 4, .bool a_v0, .string ⟨a_l0.toArray⟩, .bool a_v1, .string ⟨a_l1.toArray⟩, .bool a_v2, .string ⟨a_l2.toArray⟩, .bool a_v3, .string ⟨a_l3.toArray⟩]] W fun e w' => e = .returned (.string ⟨S.toArray⟩) ∧ Since W w') := by
    intro W; rw [hS1.out]; exact text_any a_s a_p (4 : Int) a_v0 a_v1 a_v2 a_v3 a_l0 a_l1 a_l2 a_l3 W HLA.out
  have heF : (S == F) = false := by
    rw [beq_eq_false_iff_ne, hS1.out, hF.out, textA, if_neg (by show ¬ (min (max (4 : Int) 0) 4).toNat = 0; decide)]
    intro h
    have := congrArg List.length h
    simp only [List.length_append, List.length_cons] at this
    omega
  have hFS : F.length ≤ S.length := by rw [hT.out]; simp
  have h300 : decide ((300 : Int) < (xl.length : Int)) = false := decide_eq_false (by omega)
  clear fa hLa
  go_enter Tryd.func5, Tryd.ntmps5
  go_wp2_with (first
    | (go_at_call 18; refine (lives03_any _ hE).mono ?_; rintro e w1 ⟨rfl, hb⟩; replace hE := hE.next hb; replace hS := hS.trans hb; replace a_B := a_B.next hb; replace a_c0 := hb.cell a_c0; replace a_c1 := hb.cell a_c1; replace a_c2 := hb.cell a_c2; replace a_c3 := hb.cell a_c3; replace a_c4 := hb.cell a_c4; replace a_c5 := hb.cell a_c5; replace a_c6 := hb.cell a_c6; replace a_c7 := hb.cell a_c7; replace a_c8 := hb.cell a_c8; replace a_c9 := hb.cell a_c9; replace a_c10 := hb.cell a_c10; replace x_c0 := hb.cell x_c0; replace x_c1 := hb.cell x_c1)
    | (go_at_call 12; ((with_reducible refine (light_any a_s a_p (4 : Int) a_v0 a_v1 a_v2 a_v3 a_l0 a_l1 a_l2 a_l3 _).mono ?_); rintro e w1 ⟨rfl, hb⟩; rw [la]; replace hE := hE.next hb; replace hS := hS.trans hb; replace a_B := a_B.next hb; replace a_c0 := hb.cell a_c0; replace a_c1 := hb.cell a_c1; replace a_c2 := hb.cell a_c2; replace a_c3 := hb.cell a_c3; replace a_c4 := hb.cell a_c4; replace a_c5 := hb.cell a_c5; replace a_c6 := hb.cell a_c6; replace a_c7 := hb.cell a_c7; replace a_c8 := hb.cell a_c8; replace a_c9 := hb.cell a_c9; replace a_c10 := hb.cell a_c10; replace x_c0 := hb.cell x_c0; replace x_c1 := hb.cell x_c1))
    | (go_at_call 21; ((with_reducible refine (check_any a_s a_p (4 : Int) a_v0 a_v1 a_v2 a_v3 a_l0 a_l1 a_l2 a_l3 _ HFA.out hE).mono ?_); rintro e w1 ⟨rfl, hb⟩; replace hE := hE.next hb; replace hS := hS.trans hb; replace a_B := a_B.next hb; replace a_c0 := hb.cell a_c0; replace a_c1 := hb.cell a_c1; replace a_c2 := hb.cell a_c2; replace a_c3 := hb.cell a_c3; replace a_c4 := hb.cell a_c4; replace a_c5 := hb.cell a_c5; replace a_c6 := hb.cell a_c6; replace a_c7 := hb.cell a_c7; replace a_c8 := hb.cell a_c8; replace a_c9 := hb.cell a_c9; replace a_c10 := hb.cell a_c10; replace x_c0 := hb.cell x_c0; replace x_c1 := hb.cell x_c1))
    | (go_at_call 22; ((with_reducible refine (term_any xv xl _ (by unfold maxLen; omega) hE).mono ?_); rintro e w1 ⟨rfl, hb⟩; rw [kx]; replace hE := hE.next hb; replace hS := hS.trans hb; replace a_B := a_B.next hb; replace a_c0 := hb.cell a_c0; replace a_c1 := hb.cell a_c1; replace a_c2 := hb.cell a_c2; replace a_c3 := hb.cell a_c3; replace a_c4 := hb.cell a_c4; replace a_c5 := hb.cell a_c5; replace a_c6 := hb.cell a_c6; replace a_c7 := hb.cell a_c7; replace a_c8 := hb.cell a_c8; replace a_c9 := hb.cell a_c9; replace a_c10 := hb.cell a_c10; replace x_c0 := hb.cell x_c0; replace x_c1 := hb.cell x_c1))
    | (go_at_call 23; ((with_reducible refine (HTA.out _).mono ?_); rintro e w1 ⟨rfl, hb⟩; replace hE := hE.next hb; replace hS := hS.trans hb; replace a_B := a_B.next hb; replace a_c0 := hb.cell a_c0; replace a_c1 := hb.cell a_c1; replace a_c2 := hb.cell a_c2; replace a_c3 := hb.cell a_c3; replace a_c4 := hb.cell a_c4; replace a_c5 := hb.cell a_c5; replace a_c6 := hb.cell a_c6; replace a_c7 := hb.cell a_c7; replace a_c8 := hb.cell a_c8; replace a_c9 := hb.cell a_c9; replace a_c10 := hb.cell a_c10; replace x_c0 := hb.cell x_c0; replace x_c1 := hb.cell x_c1))
    | (go_at_call 24; ((with_reducible refine (vars_any a_s a_p (4 : Int) a_v0 a_v1 a_v2 a_v3 a_l0 a_l1 a_l2 a_l3 _).mono ?_); rintro e w1 ⟨v1, rfl, hown1, hb⟩; replace hE := hE.next hb; replace hS := hS.trans hb; replace a_B := a_B.next hb; replace a_c0 := hb.cell a_c0; replace a_c1 := hb.cell a_c1; replace a_c2 := hb.cell a_c2; replace a_c3 := hb.cell a_c3; replace a_c4 := hb.cell a_c4; replace a_c5 := hb.cell a_c5; replace a_c6 := hb.cell a_c6; replace a_c7 := hb.cell a_c7; replace a_c8 := hb.cell a_c8; replace a_c9 := hb.cell a_c9; replace a_c10 := hb.cell a_c10; replace x_c0 := hb.cell x_c0; replace x_c1 := hb.cell x_c1)))
  clear c1 c2 hcut hlt hFS h300 heF
  have hR1 := row_of_own hown1
  clear hown1 hb
  obtain ⟨V, hV⟩ : ∃ V, Hid (V = namesA ((a_s, a_p, (4 : Int), (a_v0, a_l0), (a_v1, a_l1), (a_v2, a_l2), (a_v3, a_l3)) : Atm) true) := ⟨_, rfl⟩
  rw [← hV.out] at hR1
  obtain ⟨a1, c1, rfl⟩ := hR1.len
  obtain ⟨L, hL⟩ : ∃ L, Hid (L = argsL ((a_s, a_p, (4 : Int), (a_v0, a_l0), (a_v1, a_l1), (a_v2, a_l2), (a_v3, a_l3)) : Atm)) := ⟨argsL ((a_s, a_p, (4 : Int), (a_v0, a_l0), (a_v1, a_l1), (a_v2, a_l2), (a_v3, a_l3)) : Atm), rfl⟩
  have hl4 : Hid (L.length = 4) := by show _ = _; rw [hL.out]; rfl
  have hargs := a_B.args
  rw [← hL.out] at hargs
  have hsub : Hid (((V.drop 0).map fun y => ((true, y) : Tm)).Sublist ((L.take 4).drop 0)) := by
    show List.Sublist _ _
    rw [hL.out, hV.out]
    obtain ⟨s, h1, h2⟩ := namesF_split true ((argsL ((a_s, a_p, (4 : Int), (a_v0, a_l0), (a_v1, a_l1), (a_v2, a_l2), (a_v3, a_l3)) : Atm)).take (countA ((a_s, a_p, (4 : Int), (a_v0, a_l0), (a_v1, a_l1), (a_v2, a_l2), (a_v3, a_l3)) : Atm))) []
    rw [namesA, h1]
    exact h2
  have hV4 : V.length ≤ 4 := by
    have h1 := names_len ((a_s, a_p, (4 : Int), (a_v0, a_l0), (a_v1, a_l1), (a_v2, a_l2), (a_v3, a_l3)) : Atm)
    have h2 := countA_le ((a_s, a_p, (4 : Int), (a_v0, a_l0), (a_v1, a_l1), (a_v2, a_l2), (a_v3, a_l3)) : Atm)
    rw [← hV.out] at h1
    omega
  go_loopw [8, 9] (fun at_ i wr => ∃ (k j : Nat), k ≤ 4 ∧ j ≤ V.length ∧ i = .int .i64 k ∧ at_ = .int .i64 j ∧ Hid (((V.drop j).map fun y => ((true, y) : Tm)).Sublist ((L.take 4).drop k)) ∧ Since w1 wr) (fun _ i _ => 4 - (intOf i).toNat)
  case atStart => exact ⟨0, 0, by omega, by omega, rfl, rfl, hsub, Since.refl _⟩
  case round =>
    clear hsub
    obtain ⟨k, j, hk, hj, rfl, rfl, hsub, hSr⟩ := hrel
    have d2 := hSr.cell a_c2
    by_cases hlt : k < 4
    · have hkL : k < L.length := by rw [hl4.out]; omega
      obtain ⟨d3, d4⟩ := (hargs.next hSr).2 k hkL
      have hst := take_drop_step (n := 4) hkL hlt
      have hsub' := hsub.out
      rw [hst] at hsub'
      have HSUB := Lib.hid hsub'
      clear hsub hsub' hst
      have hk4 : (k : Int) < 4 := by omega
      generalize L[k] = t at *
      obtain ⟨tv, tl⟩ := t
      by_cases hjl : j < V.length
      · obtain ⟨b1, o1, c1', e1, hc1, hcell1⟩ := (hR1.next hSr).some (by omega)
        injection e1 with e1 _ e1'
        subst e1 e1'
        have f1 := hcell1 j (by simpa using hjl)
        simp only [List.getElem_map, strV] at f1
        have hdr := List.drop_eq_getElem_cons hjl
        have hsub2 := HSUB.out
        rw [hdr] at hsub2
        have HSUB2 := Lib.hid hsub2
        have HDR := Lib.hid hdr
        clear hsub2 HSUB hdr hcell1
        have hji : decide ((j : Int) < (V.length : Int)) = true := decide_eq_true (by omega)
        have hj0 : (0 : Int) ≤ (j : Int) := by omega
        have hj1 : (j : Int) < (V.length : Int) := by omega
        have hk0 : (0 : Int) ≤ (k : Int) := by omega
        generalize V[j] = y at *
        cases he : eqT (tv, tl) (true, y)
        all_goals
          go_wp2_with fail
          go_region_held3 (fun w' => w'.cell? ⟨w.heap.size, 3 + k * 2, none⟩ = some (.bool tv) ∧ w'.cell? ⟨w.heap.size, 3 + k * 2 + 1, none⟩ = some (.string ⟨tl.toArray⟩) ∧ w'.cell? ⟨b1, o1 + j, none⟩ = some (.string ⟨y.toArray⟩))
            (first | (refine ⟨?_, ?_, ?_⟩ <;> assumption) | (go_split_ands; refine ⟨?_, ?_, ?_⟩ <;> (refine Since.cell hb ?_; assumption)))
            (first | (go_at_call 25; ((with_reducible refine (kV_any y _).mono ?_); rintro e w5 ⟨rfl, hb⟩)))
          go_wp2_with fail
          go_roundw
          case measure => simp [intOf]; omega
        · exact ⟨k + 1, j, by omega, by omega, by go_num, rfl, (by
            have h3 := sub_miss HSUB2.out he
            rw [← HDR.out] at h3
            exact h3), hSr.drew.trans hb⟩
        · exact ⟨k + 1, j + 1, by omega, by omega, by go_num, by go_num, sub_hit HSUB2.out he, hSr.drew.trans hb⟩
      · have hji : decide ((j : Int) < (V.length : Int)) = false := decide_eq_false (by omega)
        go_wp2_with fail
        go_quiet (fail)
        go_wp2_with fail
        go_roundw
        case rel => exact ⟨k + 1, j, by omega, by omega, by go_num, rfl, (by
          show List.Sublist _ _
          rw [List.drop_eq_nil_of_le (by omega)]; simp), hSr.drewN _⟩
        case measure => simp [intOf]; omega
    · have hjV : j = V.length := by
        have h1 := hsub.out
        have h0 : (L.take 4).drop k = [] := List.drop_eq_nil_of_le (by rw [List.length_take]; omega)
        rw [h0] at h1
        have h2 := h1.length_le
        simp only [List.length_map, List.length_drop, List.length_nil] at h2
        omega
      subst hjV
      obtain rfl : k = 4 := by omega
      clear hsub hlt hk hj hR1 hargs hl4 hL
      have hE2 := hE.next hSr
      have hS2 := hS.trans hSr
      have a_B2 := a_B.next hSr
      replace x_c0 := hSr.cell x_c0
      replace x_c1 := hSr.cell x_c1
      clear a_c0 a_c1 a_c2 a_c3 a_c4 a_c5 a_c6 a_c7 a_c8 a_c9 a_c10 a_B hE hS
      obtain ⟨a_c0, a_c1, a_c2, a_c3, a_c4, a_c5, a_c6, a_c7, a_c8, a_c9, a_c10⟩ := a_B2.all
      have hz1 : w.heap.size < wr.heap.size := World.block_lt_of_cell? wr _ a_c0
      have hz2 : w.heap.size + 1 < wr.heap.size := World.block_lt_of_cell? wr _ x_c0
      clear d2 hSr
      go_wp2_with fail
      go_ret
      exact ⟨rfl, hS2⟩

set_option maxHeartbeats 4000000 in
set_option maxRecDepth 100000 in
theorem texts_out (a_s a_p : List UInt8) (a_n : Int) (a_v0 a_v1 a_v2 a_v3 : Bool) (a_l0 a_l1 a_l2 a_l3 : List UInt8) (xv : Bool) (xl : List UInt8) (w : World) (hE : Env w) (fa : FitsA ((a_s, a_p, a_n, (a_v0, a_l0), (a_v1, a_l1), (a_v2, a_l2), (a_v3, a_l3)) : Atm)) (fx : xl.length ≤ maxLen) (h : lightB ((a_s, a_p, a_n, (a_v0, a_l0), (a_v1, a_l1), (a_v2, a_l2), (a_v3, a_l3)) : Atm) = false ∨ (lightB ((a_s, a_p, a_n, (a_v0, a_l0), (a_v1, a_l1), (a_v2, a_l2), (a_v3, a_l3)) : Atm) = true ∧ ((300 < xl.length) ∨ (xl.length ≤ 300 ∧ ((checkA ((a_s, a_p, a_n, (a_v0, a_l0), (a_v1, a_l1), (a_v2, a_l2), (a_v3, a_l3)) : Atm) != 0) = true ∨ ((checkA ((a_s, a_p, a_n, (a_v0, a_l0), (a_v1, a_l1), (a_v2, a_l2), (a_v3, a_l3)) : Atm) != 0) = false ∧ termB (xv, xl) = false)))))) :
    Calls Tryd.prog 5 #[.agg #[.string ⟨a_s.toArray⟩, .string ⟨a_p.toArray⟩, .int .i64 a_n, .bool a_v0, .string ⟨a_l0.toArray⟩, .bool a_v1, .string ⟨a_l1.toArray⟩, .bool a_v2, .string ⟨a_l2.toArray⟩, .bool a_v3, .string ⟨a_l3.toArray⟩], .agg #[.bool xv, .string ⟨xl.toArray⟩]] w fun e w' => e = .returned (.bool true) ∧ Since w w' := by
  have hS : Since w ((w.alloc (.cells #[.string ⟨a_s.toArray⟩, .string ⟨a_p.toArray⟩, .int .i64 a_n, .bool a_v0, .string ⟨a_l0.toArray⟩, .bool a_v1, .string ⟨a_l1.toArray⟩, .bool a_v2, .string ⟨a_l2.toArray⟩, .bool a_v3, .string ⟨a_l3.toArray⟩] 26)).alloc (.cells #[.bool xv, .string ⟨xl.toArray⟩] 23)) := ((Since.refl _).alloc _).alloc _
  have a_B : Box ((w.alloc (.cells #[.string ⟨a_s.toArray⟩, .string ⟨a_p.toArray⟩, .int .i64 a_n, .bool a_v0, .string ⟨a_l0.toArray⟩, .bool a_v1, .string ⟨a_l1.toArray⟩, .bool a_v2, .string ⟨a_l2.toArray⟩, .bool a_v3, .string ⟨a_l3.toArray⟩] 26)).alloc (.cells #[.bool xv, .string ⟨xl.toArray⟩] 23)) w.heap.size ((a_s, a_p, a_n, (a_v0, a_l0), (a_v1, a_l1), (a_v2, a_l2), (a_v3, a_l3)) : Atm) := (box_new w ((a_s, a_p, a_n, (a_v0, a_l0), (a_v1, a_l1), (a_v2, a_l2), (a_v3, a_l3)) : Atm) _).next ((Since.refl _).alloc _)
  have x_c0 : ((w.alloc (.cells #[.string ⟨a_s.toArray⟩, .string ⟨a_p.toArray⟩, .int .i64 a_n, .bool a_v0, .string ⟨a_l0.toArray⟩, .bool a_v1, .string ⟨a_l1.toArray⟩, .bool a_v2, .string ⟨a_l2.toArray⟩, .bool a_v3, .string ⟨a_l3.toArray⟩] 26)).alloc (.cells #[.bool xv, .string ⟨xl.toArray⟩] 23)).cell? ⟨w.heap.size + 1, 0, none⟩ = some (.bool xv) := by
    have := World.cell?_alloc_new (w.alloc (.cells #[.string ⟨a_s.toArray⟩, .string ⟨a_p.toArray⟩, .int .i64 a_n, .bool a_v0, .string ⟨a_l0.toArray⟩, .bool a_v1, .string ⟨a_l1.toArray⟩, .bool a_v2, .string ⟨a_l2.toArray⟩, .bool a_v3, .string ⟨a_l3.toArray⟩] 26)) #[.bool xv, .string ⟨xl.toArray⟩] 23 0
    rw [World.size_alloc] at this; rw [this]; rfl
  have x_c1 : ((w.alloc (.cells #[.string ⟨a_s.toArray⟩, .string ⟨a_p.toArray⟩, .int .i64 a_n, .bool a_v0, .string ⟨a_l0.toArray⟩, .bool a_v1, .string ⟨a_l1.toArray⟩, .bool a_v2, .string ⟨a_l2.toArray⟩, .bool a_v3, .string ⟨a_l3.toArray⟩] 26)).alloc (.cells #[.bool xv, .string ⟨xl.toArray⟩] 23)).cell? ⟨w.heap.size + 1, 1, none⟩ = some (.string ⟨xl.toArray⟩) := by
    have := World.cell?_alloc_new (w.alloc (.cells #[.string ⟨a_s.toArray⟩, .string ⟨a_p.toArray⟩, .int .i64 a_n, .bool a_v0, .string ⟨a_l0.toArray⟩, .bool a_v1, .string ⟨a_l1.toArray⟩, .bool a_v2, .string ⟨a_l2.toArray⟩, .bool a_v3, .string ⟨a_l3.toArray⟩] 26)) #[.bool xv, .string ⟨xl.toArray⟩] 23 1
    rw [World.size_alloc] at this; rw [this]; rfl
  obtain ⟨a_c0, a_c1, a_c2, a_c3, a_c4, a_c5, a_c6, a_c7, a_c8, a_c9, a_c10⟩ := a_B.all
  replace hE := hE.next hS
  have HFA := Lib.hid fa
  unfold maxLen at fx
  clear fa
  rcases h with la | ⟨la, h | ⟨hx, h | ⟨ka, h⟩⟩⟩
  · go_enter Tryd.func5, Tryd.ntmps5
    go_wp2_with (first
      | (go_at_call 18; refine (lives03_any _ hE).mono ?_; rintro e w1 ⟨rfl, hb⟩; replace hE := hE.next hb; replace hS := hS.trans hb; replace a_B := a_B.next hb; replace a_c0 := hb.cell a_c0; replace a_c1 := hb.cell a_c1; replace a_c2 := hb.cell a_c2; replace a_c3 := hb.cell a_c3; replace a_c4 := hb.cell a_c4; replace a_c5 := hb.cell a_c5; replace a_c6 := hb.cell a_c6; replace a_c7 := hb.cell a_c7; replace a_c8 := hb.cell a_c8; replace a_c9 := hb.cell a_c9; replace a_c10 := hb.cell a_c10; replace x_c0 := hb.cell x_c0; replace x_c1 := hb.cell x_c1)
      | (go_at_call 12; ((with_reducible refine (light_any a_s a_p a_n a_v0 a_v1 a_v2 a_v3 a_l0 a_l1 a_l2 a_l3 _).mono ?_); rintro e w1 ⟨rfl, hb⟩; rw [la]; replace hE := hE.next hb; replace hS := hS.trans hb; replace a_B := a_B.next hb; replace a_c0 := hb.cell a_c0; replace a_c1 := hb.cell a_c1; replace a_c2 := hb.cell a_c2; replace a_c3 := hb.cell a_c3; replace a_c4 := hb.cell a_c4; replace a_c5 := hb.cell a_c5; replace a_c6 := hb.cell a_c6; replace a_c7 := hb.cell a_c7; replace a_c8 := hb.cell a_c8; replace a_c9 := hb.cell a_c9; replace a_c10 := hb.cell a_c10; replace x_c0 := hb.cell x_c0; replace x_c1 := hb.cell x_c1))
      | (go_at_call 21; ((with_reducible refine (check_any a_s a_p a_n a_v0 a_v1 a_v2 a_v3 a_l0 a_l1 a_l2 a_l3 _ HFA.out hE).mono ?_); rintro e w1 ⟨rfl, hb⟩; replace hE := hE.next hb; replace hS := hS.trans hb; replace a_B := a_B.next hb; replace a_c0 := hb.cell a_c0; replace a_c1 := hb.cell a_c1; replace a_c2 := hb.cell a_c2; replace a_c3 := hb.cell a_c3; replace a_c4 := hb.cell a_c4; replace a_c5 := hb.cell a_c5; replace a_c6 := hb.cell a_c6; replace a_c7 := hb.cell a_c7; replace a_c8 := hb.cell a_c8; replace a_c9 := hb.cell a_c9; replace a_c10 := hb.cell a_c10; replace x_c0 := hb.cell x_c0; replace x_c1 := hb.cell x_c1))
      | (go_at_call 22; ((with_reducible refine (term_any xv xl _ (by unfold maxLen; omega) hE).mono ?_); rintro e w1 ⟨rfl, hb⟩; rw [kx]; replace hE := hE.next hb; replace hS := hS.trans hb)))
    go_ret
    exact ⟨rfl, hS⟩
  · have h300 : decide ((300 : Int) < (xl.length : Int)) = true := decide_eq_true (by omega)
    go_enter Tryd.func5, Tryd.ntmps5
    go_wp2_with (first
      | (go_at_call 18; refine (lives03_any _ hE).mono ?_; rintro e w1 ⟨rfl, hb⟩; replace hE := hE.next hb; replace hS := hS.trans hb; replace a_B := a_B.next hb; replace a_c0 := hb.cell a_c0; replace a_c1 := hb.cell a_c1; replace a_c2 := hb.cell a_c2; replace a_c3 := hb.cell a_c3; replace a_c4 := hb.cell a_c4; replace a_c5 := hb.cell a_c5; replace a_c6 := hb.cell a_c6; replace a_c7 := hb.cell a_c7; replace a_c8 := hb.cell a_c8; replace a_c9 := hb.cell a_c9; replace a_c10 := hb.cell a_c10; replace x_c0 := hb.cell x_c0; replace x_c1 := hb.cell x_c1)
      | (go_at_call 12; ((with_reducible refine (light_any a_s a_p a_n a_v0 a_v1 a_v2 a_v3 a_l0 a_l1 a_l2 a_l3 _).mono ?_); rintro e w1 ⟨rfl, hb⟩; rw [la]; replace hE := hE.next hb; replace hS := hS.trans hb; replace a_B := a_B.next hb; replace a_c0 := hb.cell a_c0; replace a_c1 := hb.cell a_c1; replace a_c2 := hb.cell a_c2; replace a_c3 := hb.cell a_c3; replace a_c4 := hb.cell a_c4; replace a_c5 := hb.cell a_c5; replace a_c6 := hb.cell a_c6; replace a_c7 := hb.cell a_c7; replace a_c8 := hb.cell a_c8; replace a_c9 := hb.cell a_c9; replace a_c10 := hb.cell a_c10; replace x_c0 := hb.cell x_c0; replace x_c1 := hb.cell x_c1))
      | (go_at_call 21; ((with_reducible refine (check_any a_s a_p a_n a_v0 a_v1 a_v2 a_v3 a_l0 a_l1 a_l2 a_l3 _ HFA.out hE).mono ?_); rintro e w1 ⟨rfl, hb⟩; replace hE := hE.next hb; replace hS := hS.trans hb; replace a_B := a_B.next hb; replace a_c0 := hb.cell a_c0; replace a_c1 := hb.cell a_c1; replace a_c2 := hb.cell a_c2; replace a_c3 := hb.cell a_c3; replace a_c4 := hb.cell a_c4; replace a_c5 := hb.cell a_c5; replace a_c6 := hb.cell a_c6; replace a_c7 := hb.cell a_c7; replace a_c8 := hb.cell a_c8; replace a_c9 := hb.cell a_c9; replace a_c10 := hb.cell a_c10; replace x_c0 := hb.cell x_c0; replace x_c1 := hb.cell x_c1))
      | (go_at_call 22; ((with_reducible refine (term_any xv xl _ (by unfold maxLen; omega) hE).mono ?_); rintro e w1 ⟨rfl, hb⟩; rw [kx]; replace hE := hE.next hb; replace hS := hS.trans hb)))
    go_ret
    exact ⟨rfl, hS⟩
  · have h300 : decide ((300 : Int) < (xl.length : Int)) = false := decide_eq_false (by omega)
    go_enter Tryd.func5, Tryd.ntmps5
    go_wp2_with (first
      | (go_at_call 18; refine (lives03_any _ hE).mono ?_; rintro e w1 ⟨rfl, hb⟩; replace hE := hE.next hb; replace hS := hS.trans hb; replace a_B := a_B.next hb; replace a_c0 := hb.cell a_c0; replace a_c1 := hb.cell a_c1; replace a_c2 := hb.cell a_c2; replace a_c3 := hb.cell a_c3; replace a_c4 := hb.cell a_c4; replace a_c5 := hb.cell a_c5; replace a_c6 := hb.cell a_c6; replace a_c7 := hb.cell a_c7; replace a_c8 := hb.cell a_c8; replace a_c9 := hb.cell a_c9; replace a_c10 := hb.cell a_c10; replace x_c0 := hb.cell x_c0; replace x_c1 := hb.cell x_c1)
      | (go_at_call 12; ((with_reducible refine (light_any a_s a_p a_n a_v0 a_v1 a_v2 a_v3 a_l0 a_l1 a_l2 a_l3 _).mono ?_); rintro e w1 ⟨rfl, hb⟩; rw [la]; replace hE := hE.next hb; replace hS := hS.trans hb; replace a_B := a_B.next hb; replace a_c0 := hb.cell a_c0; replace a_c1 := hb.cell a_c1; replace a_c2 := hb.cell a_c2; replace a_c3 := hb.cell a_c3; replace a_c4 := hb.cell a_c4; replace a_c5 := hb.cell a_c5; replace a_c6 := hb.cell a_c6; replace a_c7 := hb.cell a_c7; replace a_c8 := hb.cell a_c8; replace a_c9 := hb.cell a_c9; replace a_c10 := hb.cell a_c10; replace x_c0 := hb.cell x_c0; replace x_c1 := hb.cell x_c1))
      | (go_at_call 21; ((with_reducible refine (check_any a_s a_p a_n a_v0 a_v1 a_v2 a_v3 a_l0 a_l1 a_l2 a_l3 _ HFA.out hE).mono ?_); rintro e w1 ⟨rfl, hb⟩; replace hE := hE.next hb; replace hS := hS.trans hb; replace a_B := a_B.next hb; replace a_c0 := hb.cell a_c0; replace a_c1 := hb.cell a_c1; replace a_c2 := hb.cell a_c2; replace a_c3 := hb.cell a_c3; replace a_c4 := hb.cell a_c4; replace a_c5 := hb.cell a_c5; replace a_c6 := hb.cell a_c6; replace a_c7 := hb.cell a_c7; replace a_c8 := hb.cell a_c8; replace a_c9 := hb.cell a_c9; replace a_c10 := hb.cell a_c10; replace x_c0 := hb.cell x_c0; replace x_c1 := hb.cell x_c1))
      | (go_at_call 22; ((with_reducible refine (term_any xv xl _ (by unfold maxLen; omega) hE).mono ?_); rintro e w1 ⟨rfl, hb⟩; rw [kx]; replace hE := hE.next hb; replace hS := hS.trans hb)))
    go_ret
    exact ⟨rfl, hS⟩
  · have h300 : decide ((300 : Int) < (xl.length : Int)) = false := decide_eq_false (by omega)
    have kx := h
    go_enter Tryd.func5, Tryd.ntmps5
    go_wp2_with (first
      | (go_at_call 18; refine (lives03_any _ hE).mono ?_; rintro e w1 ⟨rfl, hb⟩; replace hE := hE.next hb; replace hS := hS.trans hb; replace a_B := a_B.next hb; replace a_c0 := hb.cell a_c0; replace a_c1 := hb.cell a_c1; replace a_c2 := hb.cell a_c2; replace a_c3 := hb.cell a_c3; replace a_c4 := hb.cell a_c4; replace a_c5 := hb.cell a_c5; replace a_c6 := hb.cell a_c6; replace a_c7 := hb.cell a_c7; replace a_c8 := hb.cell a_c8; replace a_c9 := hb.cell a_c9; replace a_c10 := hb.cell a_c10; replace x_c0 := hb.cell x_c0; replace x_c1 := hb.cell x_c1)
      | (go_at_call 12; ((with_reducible refine (light_any a_s a_p a_n a_v0 a_v1 a_v2 a_v3 a_l0 a_l1 a_l2 a_l3 _).mono ?_); rintro e w1 ⟨rfl, hb⟩; rw [la]; replace hE := hE.next hb; replace hS := hS.trans hb; replace a_B := a_B.next hb; replace a_c0 := hb.cell a_c0; replace a_c1 := hb.cell a_c1; replace a_c2 := hb.cell a_c2; replace a_c3 := hb.cell a_c3; replace a_c4 := hb.cell a_c4; replace a_c5 := hb.cell a_c5; replace a_c6 := hb.cell a_c6; replace a_c7 := hb.cell a_c7; replace a_c8 := hb.cell a_c8; replace a_c9 := hb.cell a_c9; replace a_c10 := hb.cell a_c10; replace x_c0 := hb.cell x_c0; replace x_c1 := hb.cell x_c1))
      | (go_at_call 21; ((with_reducible refine (check_any a_s a_p a_n a_v0 a_v1 a_v2 a_v3 a_l0 a_l1 a_l2 a_l3 _ HFA.out hE).mono ?_); rintro e w1 ⟨rfl, hb⟩; replace hE := hE.next hb; replace hS := hS.trans hb; replace a_B := a_B.next hb; replace a_c0 := hb.cell a_c0; replace a_c1 := hb.cell a_c1; replace a_c2 := hb.cell a_c2; replace a_c3 := hb.cell a_c3; replace a_c4 := hb.cell a_c4; replace a_c5 := hb.cell a_c5; replace a_c6 := hb.cell a_c6; replace a_c7 := hb.cell a_c7; replace a_c8 := hb.cell a_c8; replace a_c9 := hb.cell a_c9; replace a_c10 := hb.cell a_c10; replace x_c0 := hb.cell x_c0; replace x_c1 := hb.cell x_c1))
      | (go_at_call 22; ((with_reducible refine (term_any xv xl _ (by unfold maxLen; omega) hE).mono ?_); rintro e w1 ⟨rfl, hb⟩; rw [kx]; replace hE := hE.next hb; replace hS := hS.trans hb)))
    go_ret
    exact ⟨rfl, hS⟩

theorem texts_walk (a_s a_p : List UInt8) (a_n : Int) (a_v0 a_v1 a_v2 a_v3 : Bool) (a_l0 a_l1 a_l2 a_l3 : List UInt8) (xv : Bool) (xl : List UInt8) (w : World) (hE : Env w) (fa : FitsA ((a_s, a_p, a_n, (a_v0, a_l0), (a_v1, a_l1), (a_v2, a_l2), (a_v3, a_l3)) : Atm)) (fx : xl.length ≤ maxLen) :
    Calls Tryd.prog 5 #[.agg #[.string ⟨a_s.toArray⟩, .string ⟨a_p.toArray⟩, .int .i64 a_n, .bool a_v0, .string ⟨a_l0.toArray⟩, .bool a_v1, .string ⟨a_l1.toArray⟩, .bool a_v2, .string ⟨a_l2.toArray⟩, .bool a_v3, .string ⟨a_l3.toArray⟩], .agg #[.bool xv, .string ⟨xl.toArray⟩]] w fun e w' => e = .returned (.bool true) ∧ Since w w' := by
  cases la : lightB ((a_s, a_p, a_n, (a_v0, a_l0), (a_v1, a_l1), (a_v2, a_l2), (a_v3, a_l3)) : Atm)
  · exact texts_out a_s a_p a_n a_v0 a_v1 a_v2 a_v3 a_l0 a_l1 a_l2 a_l3 xv xl w hE fa fx (.inl la)
  by_cases hx : xl.length ≤ 300
  · cases ka : (checkA ((a_s, a_p, a_n, (a_v0, a_l0), (a_v1, a_l1), (a_v2, a_l2), (a_v3, a_l3)) : Atm) != 0)
    · cases kx : termB (xv, xl)
      · exact texts_out a_s a_p a_n a_v0 a_v1 a_v2 a_v3 a_l0 a_l1 a_l2 a_l3 xv xl w hE fa fx (.inr ⟨la, .inr ⟨hx, .inr ⟨ka, kx⟩⟩⟩)
      · obtain ⟨_, _, h0, h4, _, _, _⟩ := valid_parts (a := ((a_s, a_p, a_n, (a_v0, a_l0), (a_v1, a_l1), (a_v2, a_l2), (a_v3, a_l3)) : Atm)) (by simpa using ka)
        have h0' : 0 ≤ a_n := h0
        have h4' : a_n ≤ 4 := h4
        rcases (by omega : a_n = 0 ∨ a_n = 1 ∨ a_n = 2 ∨ a_n = 3 ∨ a_n = 4) with rfl | rfl | rfl | rfl | rfl
        · exact texts_0 _ _ _ _ _ _ _ _ _ _ xv xl w hE fa hx la ka kx
        · exact texts_1 _ _ _ _ _ _ _ _ _ _ xv xl w hE fa hx la ka kx
        · exact texts_2 _ _ _ _ _ _ _ _ _ _ xv xl w hE fa hx la ka kx
        · exact texts_3 _ _ _ _ _ _ _ _ _ _ xv xl w hE fa hx la ka kx
        · exact texts_4 _ _ _ _ _ _ _ _ _ _ xv xl w hE fa hx la ka kx
    · exact texts_out a_s a_p a_n a_v0 a_v1 a_v2 a_v3 a_l0 a_l1 a_l2 a_l3 xv xl w hE fa fx (.inr ⟨la, .inr ⟨hx, .inl ka⟩⟩)
  · exact texts_out a_s a_p a_n a_v0 a_v1 a_v2 a_v3 a_l0 a_l1 a_l2 a_l3 xv xl w hE fa fx (.inr ⟨la, .inl (by omega)⟩)
end Go.Proofs.YtapkafdlbocmmaaDoor
