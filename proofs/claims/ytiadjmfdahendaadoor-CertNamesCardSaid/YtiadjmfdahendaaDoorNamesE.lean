/- CertNames returns true in every world in which the library's table strings.asciiSpace stands. -/
import Derived.Test.YtiadjmfdahendaaDoorNamesR
namespace Go.Proofs.YtiadjmfdahendaaDoor
open Go.RowKit
attribute [local go_sem ↓] run_atomEq
attribute [local go_sem] eqA_self

set_option maxHeartbeats 8000000 in
set_option maxRecDepth 100000 in
theorem names_any (w : World) (hE : Env w) :
    Calls Tryd.prog 5 #[] w fun e w' => e = .returned (.bool true) ∧ Since w w' := by
  have HR0 : Hid (∀ W, Calls Tryd.prog 17 #[.string ⟨#[172, 2, 120]⟩] W fun e w' => e = .returned (.tuple #[.int .u32 300, .int .i64 2, .int .i64 0]) ∧ W = w') := by
    intro W
    have h := readnum_any [172, 2, 120] W (by decide)
    rw [show readL [172, 2, 120] = some (300, 2) by decide +kernel] at h
    exact h
  have HR1 : Hid (∀ W, Calls Tryd.prog 17 #[.string ⟨#[172, 0]⟩] W fun e w' => e = .returned (.tuple #[.int .u32 0, .int .i64 0, .int .i64 15]) ∧ W = w') := by
    intro W
    have h := readnum_any [172, 0] W (by decide)
    rw [show readL [172, 0] = none by decide +kernel] at h
    exact h
  have HR2 : Hid (∀ W, Calls Tryd.prog 17 #[.string ⟨#[172]⟩] W fun e w' => e = .returned (.tuple #[.int .u32 0, .int .i64 0, .int .i64 15]) ∧ W = w') := by
    intro W
    have h := readnum_any [172] W (by decide)
    rw [show readL [172] = none by decide +kernel] at h
    exact h
  have HR3 : Hid (∀ W, Calls Tryd.prog 17 #[.string ⟨#[255, 255, 255, 255, 31]⟩] W fun e w' => e = .returned (.tuple #[.int .u32 0, .int .i64 0, .int .i64 15]) ∧ W = w') := by
    intro W
    have h := readnum_any [255, 255, 255, 255, 31] W (by decide)
    rw [show readL [255, 255, 255, 255, 31] = none by decide +kernel] at h
    exact h
  have HR4 : Hid (∀ W, Calls Tryd.prog 17 #[.string ⟨#[255, 255, 255, 255, 15]⟩] W fun e w' => e = .returned (.tuple #[.int .u32 4294967295, .int .i64 5, .int .i64 0]) ∧ W = w') := by
    intro W
    have h := readnum_any [255, 255, 255, 255, 15] W (by decide)
    rw [show readL [255, 255, 255, 255, 15] = some (4294967295, 5) by decide +kernel] at h
    exact h
  have HOF : Hid (∀ W, Calls Tryd.prog 18 #[.string ⟨#[97]⟩, .string ⟨#[112]⟩, .string ⟨#[88]⟩] W fun e w' => e = .returned (.agg #[.string ⟨#[97]⟩, .string ⟨#[112]⟩, .int .i64 1, .bool true, .string ⟨#[88]⟩, .bool false, .string ⟨#[]⟩, .bool false, .string ⟨#[]⟩, .bool false, .string ⟨#[]⟩]) ∧ Since W w') := fun W => of_any _ _ _ W
  have HAC : Hid (∀ W, Calls Tryd.prog 20 #[.string ⟨#[97]⟩, .string ⟨#[112]⟩, .string ⟨#[99]⟩] W fun e w' => e = .returned (.agg #[.string ⟨#[97]⟩, .string ⟨#[112]⟩, .int .i64 1, .bool false, .string ⟨#[99]⟩, .bool false, .string ⟨#[]⟩, .bool false, .string ⟨#[]⟩, .bool false, .string ⟨#[]⟩]) ∧ Since W w') := fun W => at_any _ _ _ W
  have HAD : Hid (∀ W, Calls Tryd.prog 20 #[.string ⟨#[97]⟩, .string ⟨#[112]⟩, .string ⟨#[100]⟩] W fun e w' => e = .returned (.agg #[.string ⟨#[97]⟩, .string ⟨#[112]⟩, .int .i64 1, .bool false, .string ⟨#[100]⟩, .bool false, .string ⟨#[]⟩, .bool false, .string ⟨#[]⟩, .bool false, .string ⟨#[]⟩]) ∧ Since W w') := fun W => at_any _ _ _ W
  have HCX : Hid (∀ W, Env W → Calls Tryd.prog 13 #[.agg #[.string ⟨#[97]⟩, .string ⟨#[112]⟩, .int .i64 1, .bool true, .string ⟨#[88]⟩, .bool false, .string ⟨#[]⟩, .bool false, .string ⟨#[]⟩, .bool false, .string ⟨#[]⟩]] W fun e w' => e = .returned (.tuple #[.string ⟨#[1, 97, 1, 112, 1, 1, 1, 88]⟩, .int .i64 0]) ∧ Since W w') := by
    intro W hEW
    have h := catom_yes [97] [112] 1 true false false false [88] [] [] [] W (valid_fits (by decide +kernel)) hEW (by decide +kernel) (by decide +kernel)
    rw [show atomB (([97], [112], 1, (true, [88]), (false, []), (false, []), (false, [])) : Atm) = [1, 97, 1, 112, 1, 1, 1, 88] by decide +kernel] at h
    exact h
  have HCZ : Hid (∀ W, Env W → Calls Tryd.prog 13 #[.agg #[.string ⟨#[]⟩, .string ⟨#[]⟩, .int .i64 0, .bool false, .string ⟨#[]⟩, .bool false, .string ⟨#[]⟩, .bool false, .string ⟨#[]⟩, .bool false, .string ⟨#[]⟩]] W fun e w' => e = .returned (.tuple #[.string ⟨#[]⟩, .int .i64 2]) ∧ Since W w') := by
    intro W hEW
    exact catom_no [] [] 0 false false false false [] [] [] [] W ⟨by decide, by decide, by decide +kernel⟩ hEW (by decide +kernel) (by decide +kernel)
  have HT0 : Hid (∀ W, Env W → Calls Tryd.prog 19 #[.string ⟨#[1, 97, 1, 112, 1, 1, 1, 88, 122, 122]⟩] W fun e w' => e = .returned (.tuple #[.agg #[.string ⟨#[97]⟩, .string ⟨#[112]⟩, .int .i64 1, .bool true, .string ⟨#[88]⟩, .bool false, .string ⟨#[]⟩, .bool false, .string ⟨#[]⟩, .bool false, .string ⟨#[]⟩], .int .i64 8, .int .i64 0]) ∧ Since W w') := by
    intro W hEW
    exact readatom_yes [1, 97, 1, 112, 1, 1, 1, 88, 122, 122] [97] [112] 1 true false false false [88] [] [] [] 8 W (by decide) hEW (by kernel_rfl)
  have HT1 : Hid (∀ W, Env W → Calls Tryd.prog 19 #[.string ⟨#[1, 97, 1, 112, 1, 2, 1, 88]⟩] W fun e w' => e = .returned (.tuple #[.agg #[.string ⟨#[]⟩, .string ⟨#[]⟩, .int .i64 0, .bool false, .string ⟨#[]⟩, .bool false, .string ⟨#[]⟩, .bool false, .string ⟨#[]⟩, .bool false, .string ⟨#[]⟩], .int .i64 0, .int .i64 15]) ∧ Since W w') := by
    intro W hEW
    exact readatom_no [1, 97, 1, 112, 1, 2, 1, 88] W (by decide) hEW (by decide +kernel)
  have HT2 : Hid (∀ W, Env W → Calls Tryd.prog 19 #[.string ⟨#[1, 97, 1, 80, 0]⟩] W fun e w' => e = .returned (.tuple #[.agg #[.string ⟨#[]⟩, .string ⟨#[]⟩, .int .i64 0, .bool false, .string ⟨#[]⟩, .bool false, .string ⟨#[]⟩, .bool false, .string ⟨#[]⟩, .bool false, .string ⟨#[]⟩], .int .i64 0, .int .i64 15]) ∧ Since W w') := by
    intro W hEW
    exact readatom_no [1, 97, 1, 80, 0] W (by decide) hEW (by decide +kernel)
  have hW2 := stpC_w [stpC, stpD] (by decide) (by simp)
  have hW1 := stpC_w [stpE] (by decide) (by simp)
  have HB2 : Hid (∀ b W, StpRow W (.slice (some ⟨b, 0, none⟩) 2 2) [stpC, stpD] → Env W → Calls Tryd.prog 11 #[.slice (some ⟨b, 0, none⟩) 2 2] W fun e w' => e = .returned (.tuple #[.string ⟨#[2, 0, 1, 97, 1, 112, 1, 0, 1, 99, 0, 1, 1, 97, 1, 112, 1, 0, 1, 100, 1, 0]⟩, .int .i64 0]) ∧ Since W w') := by
    intro b W hv hEW
    have h := bytes_yes _ [stpC, stpD] W hv hEW hW2.1 hW2.2 may2
    rw [bytes2] at h
    exact h
  have HB1 : Hid (∀ b W, StpRow W (.slice (some ⟨b, 0, none⟩) 1 1) [stpE] → Env W → Calls Tryd.prog 11 #[.slice (some ⟨b, 0, none⟩) 1 1] W fun e w' => e = .returned (.tuple #[.string ⟨#[]⟩, .int .i64 2]) ∧ Since W w') := by
    intro b W hv hEW
    exact bytes_no _ [stpE] W hv hEW hW1.1 hW1.2 may1
  have HD2 : Hid (∀ W, Env W → Calls Tryd.prog 15 #[.string ⟨#[2, 0, 1, 97, 1, 112, 1, 0, 1, 99, 0, 1, 1, 97, 1, 112, 1, 0, 1, 100, 1, 0]⟩] W fun e w' => ∃ v, e = .returned (.tuple #[v, .int .i64 0]) ∧ StpRow w' v [stpC, stpD] ∧ Since W w') := by
    intro W hEW
    exact read_yes _ [stpC, stpD] W (by decide) hEW (by rw [← readS_P]; exact readP_iff.2 ⟨may2, bytes2.symm⟩)
  have HDX : Hid (∀ W, Env W → Calls Tryd.prog 15 #[.string ⟨#[2, 0, 1, 97, 1, 112, 1, 0, 1, 99, 0, 1, 1, 97, 1, 112, 1, 0, 1, 100, 1, 0, 120]⟩] W fun e w' => ∃ v, e = .returned (.tuple #[v, .int .i64 15]) ∧ StpRow w' v [] ∧ Since W w') := by
    intro W hEW
    have h := read_ext may2 [120]
    rw [bytes2] at h
    exact read_no _ W (by decide) hEW h
  have HDE : Hid (∀ W, Env W → Calls Tryd.prog 15 #[.string ⟨#[]⟩] W fun e w' => ∃ v, e = .returned (.tuple #[v, .int .i64 15]) ∧ StpRow w' v [] ∧ Since W w') := by
    intro W hEW
    exact read_no [] W (by decide) hEW (by kernel_rfl)
  have HD0 : Hid (∀ W, Env W → Calls Tryd.prog 15 #[.string ⟨#[0]⟩] W fun e w' => ∃ v, e = .returned (.tuple #[v, .int .i64 0]) ∧ StpRow w' v [] ∧ Since W w') := by
    intro W hEW
    exact read_yes [0] [] W (by decide) hEW (by kernel_rfl)
  have HSM : Hid (∀ v b W, StpRow W v [stpC, stpD] → StpRow W (.slice (some ⟨b, 0, none⟩) 2 2) [stpC, stpD] → Calls Tryd.prog 14 #[v, .slice (some ⟨b, 0, none⟩) 2 2] W fun e w' => e = .returned (.bool true) ∧ Since W w') := by
    intro v b W h1 h2
    have h := sameS_any v (.slice (some ⟨b, 0, none⟩) 2 2) [stpC, stpD] [stpC, stpD] W h1 h2 (by decide) (by decide) (by decide +kernel) (by decide +kernel)
    rw [same_list] at h
    exact h
  have hcat := cat_bytes [2, 0, 1, 97, 1, 112, 1, 0, 1, 99, 0, 1, 1, 97, 1, 112, 1, 0, 1, 100, 1, 0] [120]
  clear hW1 hW2
  have HE := Lib.hid hE
  have hS := Since.refl w
  clear hE
  go_enter Tryd.func5, Tryd.ntmps5
  go_wp2_with fail
  refine (lives23_any _).mono ?_
  rintro e w1 ⟨rfl, hb⟩
  replace hS := hS.trans hb
  clear hb
  go_wp2_with fail
  refine (HR0.out _).mono ?_
  rintro e w2 ⟨rfl, rfl⟩
  go_wp2_with fail
  refine (HR1.out _).mono ?_
  rintro e w3 ⟨rfl, rfl⟩
  go_wp2_with fail
  refine (HR2.out _).mono ?_
  rintro e w4 ⟨rfl, rfl⟩
  go_wp2_with fail
  refine (HR3.out _).mono ?_
  rintro e w5 ⟨rfl, rfl⟩
  go_wp2_with fail
  refine (HR4.out _).mono ?_
  rintro e w6 ⟨rfl, rfl⟩
  go_wp2_with fail
  refine (HOF.out _).mono ?_
  rintro e w7 ⟨rfl, hb⟩
  replace hS := hS.trans hb
  clear hb
  go_wp2_with fail
  refine (HCX.out _ (HE.out.next hS)).mono ?_
  rintro e w8 ⟨rfl, hb⟩
  replace hS := hS.trans hb
  clear hb
  go_wp2_with fail
  refine (HT0.out _ (HE.out.next hS)).mono ?_
  rintro e w9 ⟨rfl, hb⟩
  replace hS := hS.trans hb
  clear hb
  have hBX : Hid (Box (w9.alloc (.cells #[.string ⟨#[97]⟩, .string ⟨#[112]⟩, .int .i64 1, .bool true, .string ⟨#[88]⟩, .bool false, .string ⟨#[]⟩, .bool false, .string ⟨#[]⟩, .bool false, .string ⟨#[]⟩] 27)) w9.heap.size (([97], [112], 1, (true, [88]), (false, []), (false, []), (false, [])) : Atm)) := box_new w9 (([97], [112], 1, (true, [88]), (false, []), (false, []), (false, [])) : Atm) _
  have hX := Since.refl (w9.alloc (.cells #[.string ⟨#[97]⟩, .string ⟨#[112]⟩, .int .i64 1, .bool true, .string ⟨#[88]⟩, .bool false, .string ⟨#[]⟩, .bool false, .string ⟨#[]⟩, .bool false, .string ⟨#[]⟩] 27))
  replace hS := hS.alloc (.cells #[.string ⟨#[97]⟩, .string ⟨#[112]⟩, .int .i64 1, .bool true, .string ⟨#[88]⟩, .bool false, .string ⟨#[]⟩, .bool false, .string ⟨#[]⟩, .bool false, .string ⟨#[]⟩] 27)
  go_wp2_with fail
  refine (HCZ.out _ (HE.out.next hS)).mono ?_
  rintro e w10 ⟨rfl, hb⟩
  replace hS := hS.trans hb
  replace hX := hX.trans hb
  clear hb
  go_wp2_with fail
  refine (HT1.out _ (HE.out.next hS)).mono ?_
  rintro e w11 ⟨rfl, hb⟩
  replace hS := hS.trans hb
  replace hX := hX.trans hb
  clear hb
  go_wp2_with fail
  refine (HT2.out _ (HE.out.next (hS.alloc _))).mono ?_
  rintro e w12 ⟨rfl, hb⟩
  replace hS := (hS.alloc _).trans hb
  replace hX := (hX.alloc _).trans hb
  clear hb
  go_wp2_with fail
  refine (HAC.out _).mono ?_
  rintro e w13 ⟨rfl, hb⟩
  replace hS := (hS.alloc _).trans hb
  replace hX := (hX.alloc _).trans hb
  clear hb
  go_wp2_with fail
  refine (HAD.out _).mono ?_
  rintro e w14 ⟨rfl, hb⟩
  replace hS := hS.trans hb
  replace hX := hX.trans hb
  clear hb
  have hRW : Hid (StpRow ((w14.alloc (.cells #[.int .i64 0] 3)).alloc (.cells #[.string ⟨#[97]⟩, .string ⟨#[112]⟩, .int .i64 1, .bool false, .string ⟨#[99]⟩, .bool false, .string ⟨#[]⟩, .bool false, .string ⟨#[]⟩, .bool false, .string ⟨#[]⟩, .int .i64 (-1), .slice none 0 0, .string ⟨#[97]⟩, .string ⟨#[112]⟩, .int .i64 1, .bool false, .string ⟨#[100]⟩, .bool false, .string ⟨#[]⟩, .bool false, .string ⟨#[]⟩, .bool false, .string ⟨#[]⟩, .int .i64 0, .slice (some ⟨w14.heap.size, 0, none⟩) 1 1] 39)) (.slice (some ⟨w14.heap.size + 1, 0, none⟩) 2 2) [stpC, stpD]) := by
    refine row_lit (w14.alloc (.cells #[.int .i64 0] 3)) 39 [(stpC, .slice none 0 0), (stpD, .slice (some ⟨w14.heap.size, 0, none⟩) 1 1)] (w14.heap.size + 1) (by simp) ?_
    intro p hp
    simp only [List.mem_cons, List.not_mem_nil, or_false] at hp
    rcases hp with rfl | rfl
    · exact ⟨none, 0, rfl, cite_zero _⟩
    · exact ⟨_, 1, rfl, cite_one _ _⟩
  have hR := Since.refl ((w14.alloc (.cells #[.int .i64 0] 3)).alloc (.cells #[.string ⟨#[97]⟩, .string ⟨#[112]⟩, .int .i64 1, .bool false, .string ⟨#[99]⟩, .bool false, .string ⟨#[]⟩, .bool false, .string ⟨#[]⟩, .bool false, .string ⟨#[]⟩, .int .i64 (-1), .slice none 0 0, .string ⟨#[97]⟩, .string ⟨#[112]⟩, .int .i64 1, .bool false, .string ⟨#[100]⟩, .bool false, .string ⟨#[]⟩, .bool false, .string ⟨#[]⟩, .bool false, .string ⟨#[]⟩, .int .i64 0, .slice (some ⟨w14.heap.size, 0, none⟩) 1 1] 39))
  replace hS := (hS.alloc (.cells #[.int .i64 0] 3)).alloc (.cells #[.string ⟨#[97]⟩, .string ⟨#[112]⟩, .int .i64 1, .bool false, .string ⟨#[99]⟩, .bool false, .string ⟨#[]⟩, .bool false, .string ⟨#[]⟩, .bool false, .string ⟨#[]⟩, .int .i64 (-1), .slice none 0 0, .string ⟨#[97]⟩, .string ⟨#[112]⟩, .int .i64 1, .bool false, .string ⟨#[100]⟩, .bool false, .string ⟨#[]⟩, .bool false, .string ⟨#[]⟩, .bool false, .string ⟨#[]⟩, .int .i64 0, .slice (some ⟨w14.heap.size, 0, none⟩) 1 1] 39)
  replace hX := (hX.alloc (.cells #[.int .i64 0] 3)).alloc (.cells #[.string ⟨#[97]⟩, .string ⟨#[112]⟩, .int .i64 1, .bool false, .string ⟨#[99]⟩, .bool false, .string ⟨#[]⟩, .bool false, .string ⟨#[]⟩, .bool false, .string ⟨#[]⟩, .int .i64 (-1), .slice none 0 0, .string ⟨#[97]⟩, .string ⟨#[112]⟩, .int .i64 1, .bool false, .string ⟨#[100]⟩, .bool false, .string ⟨#[]⟩, .bool false, .string ⟨#[]⟩, .bool false, .string ⟨#[]⟩, .int .i64 0, .slice (some ⟨w14.heap.size, 0, none⟩) 1 1] 39)
  go_wp2_with fail
  refine (HB2.out _ _ (hRW.out.next hR) (HE.out.next hS)).mono ?_
  rintro e w15 ⟨rfl, hb⟩
  replace hS := hS.trans hb
  replace hX := hX.trans hb
  replace hR := hR.trans hb
  clear hb
  go_wp2_with fail
  refine (HD2.out _ (HE.out.next hS)).mono ?_
  rintro e w16 ⟨rv, rfl, hrv, hb⟩
  replace hS := hS.trans hb
  replace hX := hX.trans hb
  replace hR := hR.trans hb
  clear hb
  have HRV := Lib.hid hrv
  clear hrv
  have hV := Since.refl w16
  go_wp2_with fail
  refine (HDX.out _ (HE.out.next hS)).mono ?_
  rintro e w17 ⟨rx, rfl, _, hb⟩
  replace hS := hS.trans hb
  replace hX := hX.trans hb
  replace hR := hR.trans hb
  replace hV := hV.trans hb
  clear hb
  go_wp2_with fail
  refine (HDE.out _ (HE.out.next hS)).mono ?_
  rintro e w18 ⟨re, rfl, _, hb⟩
  replace hS := hS.trans hb
  replace hX := hX.trans hb
  replace hR := hR.trans hb
  replace hV := hV.trans hb
  clear hb
  go_wp2_with fail
  refine (HAC.out _).mono ?_
  rintro e w19 ⟨rfl, hb⟩
  replace hS := hS.trans hb
  replace hX := hX.trans hb
  replace hR := hR.trans hb
  replace hV := hV.trans hb
  clear hb
  have hRE : Hid (StpRow ((w19.alloc (.cells #[.int .i64 0] 3)).alloc (.cells #[.string ⟨#[97]⟩, .string ⟨#[112]⟩, .int .i64 1, .bool false, .string ⟨#[99]⟩, .bool false, .string ⟨#[]⟩, .bool false, .string ⟨#[]⟩, .bool false, .string ⟨#[]⟩, .int .i64 0, .slice (some ⟨w19.heap.size, 0, none⟩) 1 1] 39)) (.slice (some ⟨w19.heap.size + 1, 0, none⟩) 1 1) [stpE]) := by
    refine row_lit (w19.alloc (.cells #[.int .i64 0] 3)) 39 [(stpE, .slice (some ⟨w19.heap.size, 0, none⟩) 1 1)] (w19.heap.size + 1) (by simp) ?_
    intro p hp
    simp only [List.mem_cons, List.not_mem_nil, or_false] at hp
    rcases hp with rfl
    exact ⟨_, 1, rfl, cite_one _ _⟩
  replace hS := (hS.alloc (.cells #[.int .i64 0] 3)).alloc (.cells #[.string ⟨#[97]⟩, .string ⟨#[112]⟩, .int .i64 1, .bool false, .string ⟨#[99]⟩, .bool false, .string ⟨#[]⟩, .bool false, .string ⟨#[]⟩, .bool false, .string ⟨#[]⟩, .int .i64 0, .slice (some ⟨w19.heap.size, 0, none⟩) 1 1] 39)
  replace hX := (hX.alloc (.cells #[.int .i64 0] 3)).alloc (.cells #[.string ⟨#[97]⟩, .string ⟨#[112]⟩, .int .i64 1, .bool false, .string ⟨#[99]⟩, .bool false, .string ⟨#[]⟩, .bool false, .string ⟨#[]⟩, .bool false, .string ⟨#[]⟩, .int .i64 0, .slice (some ⟨w19.heap.size, 0, none⟩) 1 1] 39)
  replace hR := (hR.alloc (.cells #[.int .i64 0] 3)).alloc (.cells #[.string ⟨#[97]⟩, .string ⟨#[112]⟩, .int .i64 1, .bool false, .string ⟨#[99]⟩, .bool false, .string ⟨#[]⟩, .bool false, .string ⟨#[]⟩, .bool false, .string ⟨#[]⟩, .int .i64 0, .slice (some ⟨w19.heap.size, 0, none⟩) 1 1] 39)
  replace hV := (hV.alloc (.cells #[.int .i64 0] 3)).alloc (.cells #[.string ⟨#[97]⟩, .string ⟨#[112]⟩, .int .i64 1, .bool false, .string ⟨#[99]⟩, .bool false, .string ⟨#[]⟩, .bool false, .string ⟨#[]⟩, .bool false, .string ⟨#[]⟩, .int .i64 0, .slice (some ⟨w19.heap.size, 0, none⟩) 1 1] 39)
  go_wp2_with fail
  refine (HB1.out _ _ hRE.out (HE.out.next hS)).mono ?_
  rintro e w20 ⟨rfl, hb⟩
  replace hS := hS.trans hb
  replace hX := hX.trans hb
  replace hR := hR.trans hb
  replace hV := hV.trans hb
  clear hb
  go_wp2_with fail
  refine (HD0.out _ (HE.out.next hS)).mono ?_
  rintro e w21 ⟨r0, rfl, hr0, hb⟩
  replace hS := hS.trans hb
  replace hX := hX.trans hb
  replace hR := hR.trans hb
  replace hV := hV.trans hb
  clear hb
  obtain ⟨ra, rc, rfl⟩ := hr0.form
  clear hr0
  have HB21 := hBX.out.next hX
  have hrv1 := HRV.out.next hV
  have hrw1 := hRW.out.next hR
  clear hRW hRE HRV hV hR hX hBX
  go_wp2_with fail
  clear hcat HR0 HR1 HR2 HR3 HR4 HAC HAD HCX HCZ HT0 HT1 HT2 HB1 HB2 HD2 HDX HDE HD0 HE
  refine reg_last _ _ _ _ _ _ _ _ _ _ _ _ _ _ _ _ _ _ _ _ _ _ _ _ _ _ _ _ _ _ _ _ _ _ _ _ _ _ _ _ _ _ _ _ _ _ _ _ _ _ _ _ _ _ _ _ _ _ _ _ _ _ _ _ _ _ _ _ _ _ _ _ _ _ _ _ _ _ _ _ _ _ _ _ _ _ _ _ _ _ _ _ _ _ _ _ _ _ _ _ _ _ _ _ _ _ _ _ _ _ _ _ _ _ _ _ _ _ _ _ _ _ _ _ _ _ _ _ _ _ _ _ _ _ _ _ _ _ _ _ _ _ _ _ _ _ _ _ _ _ _ _ _ _ _ _ _ _ _ _ _ _ _ _ _ _ _ _ _ _ _ _ _ _ _ _ _ _ _ _ _ _ _ _ _ _ _ _ _ _ _ _ _ _ _ _ _ _ _ _ _ _ _ _ _ _ _ rv ra rc w9.heap.size (w14.heap.size + 1) w21 _ (fun _ _ _ _ _ h => h) HOF HSM HB21 hrv1 hrw1 (fun L w' hL hs => ?_)
  go_wp2_with fail
  go_ret
  refine ⟨?_, hS.trans hs⟩
  show Ending.returned (L.toArray.getD 0 undef) = _
  rw [hL]
end Go.Proofs.YtiadjmfdahendaaDoor
