/- FrameNames returns true in every world in which the library's table strings.asciiSpace stands. -/
import Derived.Test.YtkdeokgkjmboeaaDoorFrU
import Derived.Test.YtkdeokgkjmboeaaDoorFrBack
namespace Go.Proofs.YtkdeokgkjmboeaaDoor
open Go.RowKit
attribute [local go_sem ↓] run_reqEq
attribute [local go_sem] eqRq_self
theorem row1 (W : World) (x : Atm) (t : TypeId) : AtmRow (W.alloc (.cells (atmC x) t)) (.slice (some ⟨W.heap.size, 0, none⟩) 1 1) [x] := by
  refine ⟨_, _, rfl, fun _ => ⟨W.heap.size, 0, rfl, Nat.le_refl _, fun k hk j u hu => ?_⟩⟩
  have hk0 : k = 0 := by simp only [List.length_cons, List.length_nil] at hk; omega
  subst hk0
  rw [World.cell?_alloc_new]
  simpa using hu
set_option maxHeartbeats 8000000 in
set_option maxRecDepth 100000 in
theorem fnames_any (w : World) (hE : Env w) :
    Calls Tryd.prog 6 #[] w fun e w' => e = .returned (.bool true) ∧ Since w w' := by
  have H1 : Hid (∀ W, Env W → Calls Tryd.prog 14 #[.string ⟨#[3, 1, 97, 1, 112, 0]⟩] W fun e w' => e = .returned (.tuple #[.agg #[.int .i64 3, .string ⟨#[97]⟩, .string ⟨#[112]⟩, .int .i64 0, .bool false, .string ⟨#[]⟩, .bool false, .string ⟨#[]⟩, .bool false, .string ⟨#[]⟩, .bool false, .string ⟨#[]⟩], .int .i64 0]) ∧ Since W w') := by
    intro W hE
    exact readreq_yes [3, 1, 97, 1, 112, 0] 3 [97] [112] 0 false false false false [] [] [] [] W (by decide) hE n_rd1
  have H2 : Hid (∀ W, Env W → Calls Tryd.prog 14 #[.string ⟨#[4, 1, 97, 1, 112, 0]⟩] W fun e w' => e = .returned (.tuple #[.agg #[.int .i64 0, .string ⟨#[]⟩, .string ⟨#[]⟩, .int .i64 0, .bool false, .string ⟨#[]⟩, .bool false, .string ⟨#[]⟩, .bool false, .string ⟨#[]⟩, .bool false, .string ⟨#[]⟩], .int .i64 15]) ∧ Since W w') := by
    intro W hE
    exact readreq_no [4, 1, 97, 1, 112, 0] W (by decide) hE n_rd2
  have H3 : Hid (∀ W, Env W → Calls Tryd.prog 14 #[.string ⟨#[3, 1, 97, 1, 112, 0, 120]⟩] W fun e w' => e = .returned (.tuple #[.agg #[.int .i64 0, .string ⟨#[]⟩, .string ⟨#[]⟩, .int .i64 0, .bool false, .string ⟨#[]⟩, .bool false, .string ⟨#[]⟩, .bool false, .string ⟨#[]⟩, .bool false, .string ⟨#[]⟩], .int .i64 15]) ∧ Since W w') := by
    intro W hE
    exact readreq_no [3, 1, 97, 1, 112, 0, 120] W (by decide) hE n_rd3
  have H4 : Hid (∀ W, Env W → Calls Tryd.prog 14 #[.string ⟨#[]⟩] W fun e w' => e = .returned (.tuple #[.agg #[.int .i64 0, .string ⟨#[]⟩, .string ⟨#[]⟩, .int .i64 0, .bool false, .string ⟨#[]⟩, .bool false, .string ⟨#[]⟩, .bool false, .string ⟨#[]⟩, .bool false, .string ⟨#[]⟩], .int .i64 15]) ∧ Since W w') := by
    intro W hE
    exact readreq_no [] W (by decide) hE n_rd4
  obtain ⟨X5, hX5⟩ : ∃ X, Hid (X = timesL [120] 4097) := ⟨_, rfl⟩
  have hl5 : X5.length = 4097 := by rw [hX5.out, timesL_len]; rfl
  have HT : Hid (∀ W, Calls Tryd.prog 18 #[.string ⟨#[120]⟩, .int .i64 4097] W fun e w' => e = .returned (.string ⟨X5.toArray⟩) ∧ W = w') := by
    intro W
    have h := times_any [120] 4097 W (by omega) (by decide) (by decide)
    rw [← hX5.out] at h
    exact h
  have H5 : Hid (∀ W, Calls Tryd.prog 14 #[.string ⟨X5.toArray⟩] W fun e w' => e = .returned (.tuple #[.agg #[.int .i64 0, .string ⟨#[]⟩, .string ⟨#[]⟩, .int .i64 0, .bool false, .string ⟨#[]⟩, .bool false, .string ⟨#[]⟩, .bool false, .string ⟨#[]⟩, .bool false, .string ⟨#[]⟩], .int .i64 4]) ∧ Since W w') := by
    intro W
    exact readreq_long X5 W (by omega) (by omega)
  have H6 : Hid (∀ W, Env W → Calls Tryd.prog 11 #[.agg #[.int .i64 1, .string ⟨#[]⟩, .string ⟨#[]⟩, .int .i64 0, .bool false, .string ⟨#[]⟩, .bool false, .string ⟨#[]⟩, .bool false, .string ⟨#[]⟩, .bool false, .string ⟨#[]⟩]] W fun e w' => e = .returned (.tuple #[.string ⟨#[]⟩, .int .i64 2]) ∧ Since W w') := by
    intro W hE
    exact request_no 1 [] [] 0 false false false false [] [] [] [] W zero_fits hE n_rq
  have H7 : Hid (∀ W, Env W → Calls Tryd.prog 12 #[.agg #[.int .i64 0, .bool true, .slice none 0 0, .string ⟨#[122]⟩]] W fun e w' => e = .returned (.tuple #[.string ⟨#[]⟩, .int .i64 2]) ∧ Since W w') := by
    intro W hE
    exact response_no 0 true (.slice none 0 0) [] [122] W hE (atmRow_nil _) (by simp) (by simp) (by simp) n_no1
  have H8 : Hid (∀ W, Env W → Calls Tryd.prog 12 #[.agg #[.int .i64 6, .bool true, .slice none 0 0, .string ⟨#[]⟩]] W fun e w' => e = .returned (.tuple #[.string ⟨#[]⟩, .int .i64 2]) ∧ Since W w') := by
    intro W hE
    exact response_no 6 true (.slice none 0 0) [] [] W hE (atmRow_nil _) (by simp) (by simp) (by simp) n_no2
  have H9 : Hid (∀ W, Env W → Calls Tryd.prog 12 #[.agg #[.int .i64 17, .bool false, .slice none 0 0, .string ⟨#[]⟩]] W fun e w' => e = .returned (.tuple #[.string ⟨#[]⟩, .int .i64 2]) ∧ Since W w') := by
    intro W hE
    exact response_no 17 false (.slice none 0 0) [] [] W hE (atmRow_nil _) (by simp) (by simp) (by simp) n_no3
  have H10 : Hid (∀ W, Env W → Calls Tryd.prog 12 #[.agg #[.int .i64 12, .bool false, .slice none 0 0, .string ⟨#[]⟩]] W fun e w' => e = .returned (.tuple #[.string ⟨#[12]⟩, .int .i64 0]) ∧ Since W w') := by
    intro W hE
    have h := response_good 12 false (.slice none 0 0) [] [] W hE (atmRow_nil _) (by simp) (by simp) n_no4 (by rw [n_err]; decide)
    rw [n_err] at h
    exact h
  have H11 : Hid (∀ W, Env W → Calls Tryd.prog 15 #[.string ⟨#[12, 0]⟩] W fun e w' => ∃ v, e = .returned (.tuple #[.agg #[.int .i64 0, .bool false, v, .string ⟨#[]⟩], .int .i64 15]) ∧ AtmRow w' v [] ∧ Since W w') := by
    intro W hE
    exact readresp_no [12, 0] W (by decide) hE n_rs1
  have H12 : Hid (∀ W, Env W → Calls Tryd.prog 15 #[.string ⟨#[0, 2, 0, 0]⟩] W fun e w' => ∃ v, e = .returned (.tuple #[.agg #[.int .i64 0, .bool false, v, .string ⟨#[]⟩], .int .i64 15]) ∧ AtmRow w' v [] ∧ Since W w') := by
    intro W hE
    exact readresp_no [0, 2, 0, 0] W (by decide) hE n_rs2
  have H13 : Hid (∀ W g, AtmRow W (.slice (some ⟨g, 0, none⟩) 1 1) [exB] → Env W → Calls Tryd.prog 12 #[.agg #[.int .i64 0, .bool false, .slice (some ⟨g, 0, none⟩) 1 1, .string ⟨#[122, 122]⟩]] W fun e w' => e = .returned (.tuple #[.string ⟨#[0, 0, 1, 1, 97, 1, 112, 1, 0, 1, 99, 2, 122, 122]⟩, .int .i64 0]) ∧ Since W w') := by
    intro W g hr hE
    have h := response_good 0 false (.slice (some ⟨g, 0, none⟩) 1 1) [exB] [122, 122] W hE hr (by decide +kernel) (by decide) n_ok (by rw [show rsB (0, false, [exB], [122, 122]) = _ from n_bytes]; decide)
    rw [show rsB (0, false, [exB], [122, 122]) = _ from n_bytes] at h
    exact h
  have H14 : Hid (∀ W, Env W → Calls Tryd.prog 15 #[.string ⟨#[0, 0, 1, 1, 97, 1, 112, 1, 0, 1, 99, 2, 122, 122]⟩] W fun e w' => ∃ v, e = .returned (.tuple #[.agg #[.int .i64 0, .bool false, v, .string ⟨#[122, 122]⟩], .int .i64 0]) ∧ AtmRow w' v [exB] ∧ Since W w') := by
    intro W hE
    exact readresp_yes [0, 0, 1, 1, 97, 1, 112, 1, 0, 1, 99, 2, 122, 122] exX W (by decide) hE n_back
  have H15 : Hid (∀ W, Env W → Calls Tryd.prog 15 #[.string ⟨#[0, 1, 0, 0]⟩] W fun e w' => ∃ v, e = .returned (.tuple #[.agg #[.int .i64 0, .bool true, v, .string ⟨#[]⟩], .int .i64 0]) ∧ AtmRow w' v [] ∧ Since W w') := by
    intro W hE
    exact readresp_yes [0, 1, 0, 0] (0, true, [], []) W (by decide) hE n_rs3
  have HS1 : Hid (∀ W v1 v2, AtmRow W v1 [exB] → AtmRow W v2 [exB] → Calls Tryd.prog 16 #[.agg #[.int .i64 0, .bool false, v1, .string ⟨#[122, 122]⟩], .agg #[.int .i64 0, .bool false, v2, .string ⟨#[122, 122]⟩]] W fun e w' => e = .returned (.bool true) ∧ Since W w') := by
    intro W v1 v2 h1 h2
    have h := fsame_any 0 0 false false v1 v2 [exB] [exB] [122, 122] [122, 122] W h1 h2 (by decide) (by decide)
    rw [show sameR (0, false, [exB], [122, 122]) (0, false, [exB], [122, 122]) = true by decide +kernel] at h
    exact h
  have HS2 : Hid (∀ W v1 v2, AtmRow W v1 [exB] → AtmRow W v2 [] → Calls Tryd.prog 16 #[.agg #[.int .i64 0, .bool false, v1, .string ⟨#[122, 122]⟩], .agg #[.int .i64 0, .bool true, v2, .string ⟨#[]⟩]] W fun e w' => e = .returned (.bool false) ∧ Since W w') := by
    intro W v1 v2 h1 h2
    have h := fsame_any 0 0 false true v1 v2 [exB] [] [122, 122] [] W h1 h2 (by decide) (by decide)
    rw [show sameR (0, false, [exB], [122, 122]) (0, true, [], []) = false by decide +kernel] at h
    exact h
  have HJ3 : Hid (∀ W : World, Calls Tryd.prog 21 #[.slice (some ⟨W.heap.size, 0, none⟩) 3 3] (W.alloc (.cells #[.string ⟨#[97]⟩, .string ⟨#[]⟩, .string ⟨#[98, 99]⟩] 9)) fun e w' => e = .returned (.string ⟨#[97, 98, 99]⟩) ∧ Since (W.alloc (.cells #[.string ⟨#[97]⟩, .string ⟨#[]⟩, .string ⟨#[98, 99]⟩] 9)) w') := by
    intro W
    exact fjoin_any _ [[97], [], [98, 99]] _ (row3_new W [97] [] [98, 99] _) (by decide) (by decide)
  have HJ0 : Hid (∀ W : World, Calls Tryd.prog 21 #[.slice none 0 0] W fun e w' => e = .returned (.string ⟨#[]⟩) ∧ Since W w') := by
    intro W
    exact fjoin_any _ [] W (.inl ⟨rfl, rfl, rfl⟩) (by decide) (by decide)
  have HE := Lib.hid hE
  clear hE hl5
  go_enter Tryd.func6, Tryd.ntmps6
  go_wp2_with fail
  refine (lives24_any _ HE.out).mono ?_
  rintro e w1 ⟨rfl, hS⟩
  go_wp2_with fail
  refine (H1.out _ (HE.out.next hS)).mono ?_
  rintro e w2 ⟨rfl, hb⟩
  replace hS := hS.trans hb
  clear hb
  have K1 : Hid (Cel (w2.alloc (.cells #[.int .i64 3, .string ⟨#[97]⟩, .string ⟨#[112]⟩, .int .i64 0, .bool false, .string ⟨#[]⟩, .bool false, .string ⟨#[]⟩, .bool false, .string ⟨#[]⟩, .bool false, .string ⟨#[]⟩] 28)) w2.heap.size #[.int .i64 3, .string ⟨#[97]⟩, .string ⟨#[112]⟩, .int .i64 0, .bool false, .string ⟨#[]⟩, .bool false, .string ⟨#[]⟩, .bool false, .string ⟨#[]⟩, .bool false, .string ⟨#[]⟩] 28) := heap_alloc_new w2 _
  replace hS := hS.alloc (.cells #[.int .i64 3, .string ⟨#[97]⟩, .string ⟨#[112]⟩, .int .i64 0, .bool false, .string ⟨#[]⟩, .bool false, .string ⟨#[]⟩, .bool false, .string ⟨#[]⟩, .bool false, .string ⟨#[]⟩] 28)
  go_wp2_with fail
  refine (H2.out _ (HE.out.next hS)).mono ?_
  rintro e w3 ⟨rfl, hb⟩
  replace hS := hS.trans hb
  replace K1 := Lib.hid (K1.out.next hb)
  clear hb
  replace K1 := Lib.hid (K1.out.next ((Since.refl _).alloc (.cells #[.int .i64 0, .string ⟨#[]⟩, .string ⟨#[]⟩, .int .i64 0, .bool false, .string ⟨#[]⟩, .bool false, .string ⟨#[]⟩, .bool false, .string ⟨#[]⟩, .bool false, .string ⟨#[]⟩] 28)))
  replace hS := hS.alloc (.cells #[.int .i64 0, .string ⟨#[]⟩, .string ⟨#[]⟩, .int .i64 0, .bool false, .string ⟨#[]⟩, .bool false, .string ⟨#[]⟩, .bool false, .string ⟨#[]⟩, .bool false, .string ⟨#[]⟩] 28)
  go_wp2_with fail
  refine (H3.out _ (HE.out.next hS)).mono ?_
  rintro e w4 ⟨rfl, hb⟩
  replace hS := hS.trans hb
  replace K1 := Lib.hid (K1.out.next hb)
  clear hb
  replace K1 := Lib.hid (K1.out.next ((Since.refl _).alloc (.cells #[.int .i64 0, .string ⟨#[]⟩, .string ⟨#[]⟩, .int .i64 0, .bool false, .string ⟨#[]⟩, .bool false, .string ⟨#[]⟩, .bool false, .string ⟨#[]⟩, .bool false, .string ⟨#[]⟩] 28)))
  replace hS := hS.alloc (.cells #[.int .i64 0, .string ⟨#[]⟩, .string ⟨#[]⟩, .int .i64 0, .bool false, .string ⟨#[]⟩, .bool false, .string ⟨#[]⟩, .bool false, .string ⟨#[]⟩, .bool false, .string ⟨#[]⟩] 28)
  go_wp2_with fail
  refine (H4.out _ (HE.out.next hS)).mono ?_
  rintro e w5 ⟨rfl, hb⟩
  replace hS := hS.trans hb
  replace K1 := Lib.hid (K1.out.next hb)
  clear hb
  replace K1 := Lib.hid (K1.out.next ((Since.refl _).alloc (.cells #[.int .i64 0, .string ⟨#[]⟩, .string ⟨#[]⟩, .int .i64 0, .bool false, .string ⟨#[]⟩, .bool false, .string ⟨#[]⟩, .bool false, .string ⟨#[]⟩, .bool false, .string ⟨#[]⟩] 28)))
  replace hS := hS.alloc (.cells #[.int .i64 0, .string ⟨#[]⟩, .string ⟨#[]⟩, .int .i64 0, .bool false, .string ⟨#[]⟩, .bool false, .string ⟨#[]⟩, .bool false, .string ⟨#[]⟩, .bool false, .string ⟨#[]⟩] 28)
  go_wp2_with fail
  refine (HT.out _).mono ?_
  rintro e w6 ⟨rfl, rfl⟩
  go_wp2_with fail
  refine (H5.out _).mono ?_
  rintro e w6 ⟨rfl, hb⟩
  replace hS := hS.trans hb
  replace K1 := Lib.hid (K1.out.next hb)
  clear hb
  replace K1 := Lib.hid (K1.out.next ((Since.refl _).alloc (.cells #[.int .i64 0, .string ⟨#[]⟩, .string ⟨#[]⟩, .int .i64 0, .bool false, .string ⟨#[]⟩, .bool false, .string ⟨#[]⟩, .bool false, .string ⟨#[]⟩, .bool false, .string ⟨#[]⟩] 28)))
  replace hS := hS.alloc (.cells #[.int .i64 0, .string ⟨#[]⟩, .string ⟨#[]⟩, .int .i64 0, .bool false, .string ⟨#[]⟩, .bool false, .string ⟨#[]⟩, .bool false, .string ⟨#[]⟩, .bool false, .string ⟨#[]⟩] 28)
  go_wp2_with fail
  refine (H6.out _ (HE.out.next hS)).mono ?_
  rintro e w7 ⟨rfl, hb⟩
  replace hS := hS.trans hb
  replace K1 := Lib.hid (K1.out.next hb)
  clear hb
  go_wp2_with fail
  refine (at_any [97] [112] [99] _).mono ?_
  rintro e w8 ⟨rfl, hb⟩
  replace hS := hS.trans hb
  replace K1 := Lib.hid (K1.out.next hb)
  clear hb
  go_wp2_with fail
  have K2 : Hid (AtmRow (w8.alloc (.cells #[.string ⟨#[97]⟩, .string ⟨#[112]⟩, .int .i64 1, .bool false, .string ⟨#[99]⟩, .bool false, .string ⟨#[]⟩, .bool false, .string ⟨#[]⟩, .bool false, .string ⟨#[]⟩] 26)) (.slice (some ⟨w8.heap.size, 0, none⟩) 1 1) [exB]) := row1 w8 exB _
  refine (H13.out _ _ (K2.out.next ((Since.refl _).alloc _)) (HE.out.next ((hS.alloc _).alloc _))).mono ?_
  rintro e w9 ⟨rfl, hb⟩
  have K3 : Hid (Cel ((w8.alloc (.cells #[.string ⟨#[97]⟩, .string ⟨#[112]⟩, .int .i64 1, .bool false, .string ⟨#[99]⟩, .bool false, .string ⟨#[]⟩, .bool false, .string ⟨#[]⟩, .bool false, .string ⟨#[]⟩] 26)).alloc (.cells #[.int .i64 0, .bool false, .slice (some ⟨w8.heap.size, 0, none⟩) 1 1, .string ⟨#[122, 122]⟩] 32)) (w8.heap.size + 1) #[.int .i64 0, .bool false, .slice (some ⟨w8.heap.size, 0, none⟩) 1 1, .string ⟨#[122, 122]⟩] 32) := by
    have h := heap_alloc_new (w8.alloc (.cells #[.string ⟨#[97]⟩, .string ⟨#[112]⟩, .int .i64 1, .bool false, .string ⟨#[99]⟩, .bool false, .string ⟨#[]⟩, .bool false, .string ⟨#[]⟩, .bool false, .string ⟨#[]⟩] 26)) (.cells #[.int .i64 0, .bool false, .slice (some ⟨w8.heap.size, 0, none⟩) 1 1, .string ⟨#[122, 122]⟩] 32)
    rw [World.size_alloc] at h
    exact h
  replace K1 := Lib.hid ((K1.out.next ((Since.refl _).alloc _)).next (((Since.refl _).alloc _).trans hb))
  replace K2 := Lib.hid (K2.out.next (((Since.refl _).alloc _).trans hb))
  replace K3 := Lib.hid (K3.out.next hb)
  replace hS := ((hS.alloc _).alloc _).trans hb
  clear hb
  go_wp2_with fail
  refine (H14.out  _ (HE.out.next hS)).mono ?_
  rintro e w10 ⟨v, rfl, hv, hb⟩
  obtain ⟨ay, cy, rfl⟩ := hv.form
  replace K1 := Lib.hid (K1.out.next (hb))
  replace K2 := Lib.hid (K2.out.next (hb))
  replace K3 := Lib.hid (K3.out.next (hb))
  replace hS := hS.trans hb
  have K4 := Lib.hid hv
  clear hb hv
  go_wp2_with fail
  have K5 : Hid (Cel (w10.alloc (.cells #[.int .i64 0, .bool false, .slice ay 1 cy, .string ⟨#[122, 122]⟩] 32)) w10.heap.size #[.int .i64 0, .bool false, .slice ay 1 cy, .string ⟨#[122, 122]⟩] 32) := heap_alloc_new w10 _
  refine (H7.out  _ (HE.out.next (hS.alloc _))).mono ?_
  rintro e w11 ⟨rfl, hb⟩
  replace K1 := Lib.hid (K1.out.next (((Since.refl _).alloc _).trans hb))
  replace K2 := Lib.hid (K2.out.next (((Since.refl _).alloc _).trans hb))
  replace K3 := Lib.hid (K3.out.next (((Since.refl _).alloc _).trans hb))
  replace K4 := Lib.hid (K4.out.next (((Since.refl _).alloc _).trans hb))
  replace K5 := Lib.hid (K5.out.next hb)
  replace hS := (hS.alloc _).trans hb
  clear hb
  go_wp2_with fail
  refine (H8.out  _ (HE.out.next hS)).mono ?_
  rintro e w12 ⟨rfl, hb⟩
  replace K1 := Lib.hid (K1.out.next (hb))
  replace K2 := Lib.hid (K2.out.next (hb))
  replace K3 := Lib.hid (K3.out.next (hb))
  replace K4 := Lib.hid (K4.out.next (hb))
  replace K5 := Lib.hid (K5.out.next (hb))
  replace hS := hS.trans hb
  clear hb
  go_wp2_with fail
  refine (H9.out  _ (HE.out.next hS)).mono ?_
  rintro e w13 ⟨rfl, hb⟩
  replace K1 := Lib.hid (K1.out.next (hb))
  replace K2 := Lib.hid (K2.out.next (hb))
  replace K3 := Lib.hid (K3.out.next (hb))
  replace K4 := Lib.hid (K4.out.next (hb))
  replace K5 := Lib.hid (K5.out.next (hb))
  replace hS := hS.trans hb
  clear hb
  go_wp2_with fail
  refine (refused_any 12 _).mono ?_
  rintro e w14 ⟨rfl, hb⟩
  replace K1 := Lib.hid (K1.out.next (hb))
  replace K2 := Lib.hid (K2.out.next (hb))
  replace K3 := Lib.hid (K3.out.next (hb))
  replace K4 := Lib.hid (K4.out.next (hb))
  replace K5 := Lib.hid (K5.out.next (hb))
  replace hS := hS.trans hb
  clear hb
  go_wp2_with fail
  refine (H10.out  _ (HE.out.next hS)).mono ?_
  rintro e w15 ⟨rfl, hb⟩
  replace K1 := Lib.hid (K1.out.next (hb))
  replace K2 := Lib.hid (K2.out.next (hb))
  replace K3 := Lib.hid (K3.out.next (hb))
  replace K4 := Lib.hid (K4.out.next (hb))
  replace K5 := Lib.hid (K5.out.next (hb))
  replace hS := hS.trans hb
  clear hb
  go_wp2_with fail
  refine (H11.out  _ (HE.out.next hS)).mono ?_
  rintro e w16 ⟨v, rfl, hv, hb⟩
  obtain ⟨aq1, cq1, rfl⟩ := hv.form
  replace K1 := Lib.hid (K1.out.next (hb))
  replace K2 := Lib.hid (K2.out.next (hb))
  replace K3 := Lib.hid (K3.out.next (hb))
  replace K4 := Lib.hid (K4.out.next (hb))
  replace K5 := Lib.hid (K5.out.next (hb))
  replace hS := hS.trans hb
  clear hb hv
  go_wp2_with fail
  refine (H12.out  _ (HE.out.next (hS.alloc _))).mono ?_
  rintro e w17 ⟨v, rfl, hv, hb⟩
  obtain ⟨aq2, cq2, rfl⟩ := hv.form
  replace K1 := Lib.hid (K1.out.next (((Since.refl _).alloc _).trans hb))
  replace K2 := Lib.hid (K2.out.next (((Since.refl _).alloc _).trans hb))
  replace K3 := Lib.hid (K3.out.next (((Since.refl _).alloc _).trans hb))
  replace K4 := Lib.hid (K4.out.next (((Since.refl _).alloc _).trans hb))
  replace K5 := Lib.hid (K5.out.next (((Since.refl _).alloc _).trans hb))
  replace hS := (hS.alloc _).trans hb
  clear hb hv
  go_wp2_with fail
  refine (H15.out  _ (HE.out.next (hS.alloc _))).mono ?_
  rintro e w18 ⟨v, rfl, hv, hb⟩
  obtain ⟨az, cz, rfl⟩ := hv.form
  replace K1 := Lib.hid (K1.out.next (((Since.refl _).alloc _).trans hb))
  replace K2 := Lib.hid (K2.out.next (((Since.refl _).alloc _).trans hb))
  replace K3 := Lib.hid (K3.out.next (((Since.refl _).alloc _).trans hb))
  replace K4 := Lib.hid (K4.out.next (((Since.refl _).alloc _).trans hb))
  replace K5 := Lib.hid (K5.out.next (((Since.refl _).alloc _).trans hb))
  replace hS := (hS.alloc _).trans hb
  have K7 := Lib.hid hv
  clear hb hv
  have hb0 : Since w18 (w18.alloc (.cells #[.int .i64 0, .bool true, .slice az 0 cz, .string ⟨#[]⟩] 32)) := (Since.refl _).alloc _
  replace hS := hS.trans hb0
  replace K1 := Lib.hid (K1.out.next hb0)
  replace K2 := Lib.hid (K2.out.next hb0)
  replace K3 := Lib.hid (K3.out.next hb0)
  replace K4 := Lib.hid (K4.out.next hb0)
  replace K5 := Lib.hid (K5.out.next hb0)
  replace K7 := Lib.hid (K7.out.next hb0)
  have K6 : Hid (Cel (w18.alloc (.cells #[.int .i64 0, .bool true, .slice az 0 cz, .string ⟨#[]⟩] 32)) w18.heap.size #[.int .i64 0, .bool true, .slice az 0 cz, .string ⟨#[]⟩] 32) := heap_alloc_new w18 _
  clear hb0
  obtain ⟨r0, r1, r2, r3, r4, r5, r6, r7, r8, r9, r10, r11⟩ := K1.out.rq
  obtain ⟨x0, x1, x2, x3⟩ := K3.out.rs
  obtain ⟨y0, y1, y2, y3⟩ := K5.out.rs
  clear K1 K5 H1 H2 H3 H4 H5 H6 H7 H8 H9 H10 H11 H12 H13 H14 H15 HT
  go_wp2_with fail
  refine (HS1.out _ _ _ K2.out K4.out).mono ?_
  rintro e w19 ⟨rfl, hb⟩
  replace hS := hS.trans hb
  replace K2 := Lib.hid (K2.out.next hb)
  replace K3 := Lib.hid (K3.out.next hb)
  replace K6 := Lib.hid (K6.out.next hb)
  replace K7 := Lib.hid (K7.out.next hb)
  clear hb K4 r0 r1 r2 r3 r4 r5 r6 r7 r8 r9 r10 r11 x0 x1 x2 x3 y0 y1 y2 y3
  obtain ⟨x0, x1, x2, x3⟩ := K3.out.rs
  obtain ⟨z0, z1, z2, z3⟩ := K6.out.rs
  go_wp2_with fail
  refine (HS2.out _ _ _ K2.out K7.out).mono ?_
  rintro e w20 ⟨rfl, hb⟩
  replace hS := hS.trans hb
  clear hb K2 K3 K6 K7 x0 x1 x2 x3 z0 z1 z2 z3
  go_wp2_with fail
  refine (HJ3.out _).mono ?_
  rintro e w21 ⟨rfl, hb⟩
  replace hS := (hS.alloc _).trans hb
  clear hb
  go_wp2_with fail
  refine (HJ0.out _).mono ?_
  rintro e w22 ⟨rfl, hb⟩
  replace hS := hS.trans hb
  clear hb
  go_wp2_with fail
  go_ret
  exact ⟨rfl, hS⟩
end Go.Proofs.YtkdeokgkjmboeaaDoor
