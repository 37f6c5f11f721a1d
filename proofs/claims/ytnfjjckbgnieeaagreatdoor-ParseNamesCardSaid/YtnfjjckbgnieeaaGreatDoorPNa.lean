/- ParseNames of law 10: the walk. -/
import Derived.Test.YtnfjjckbgnieeaaGreatDoorPSp
import Derived.Test.YtnfjjckbgnieeaaGreatDoorParR
namespace Go.Proofs.YtnfjjckbgnieeaaGreatDoor
open Go.RowKit

def texts10 : List Txt := [[], [112, 114, 105, 110, 99, 105, 112, 97, 108, 32, 97, 108, 105, 99, 101], [112, 114, 105, 110, 99, 105, 112, 97, 108, 32, 115, 97, 121, 115, 46], [112, 114, 101, 100, 32, 112, 47, 48, 49, 46], [99, 108, 101, 97, 114, 32, 97, 58, 32, 98, 44, 32, 46], [97, 32, 115, 97, 121, 115, 32, 112, 40, 120, 44, 32, 121, 44, 32, 122, 44, 32, 119, 44, 32, 118, 41, 46], [97, 32, 115, 97, 121, 115, 32, 112, 40, 41, 46], [97, 32, 115, 97, 121, 115, 32, 105, 102, 46], [113, 117, 111, 116, 97, 32, 49, 50, 51, 52, 53, 54, 55, 56, 46], [97, 32, 115, 97, 121, 115, 32, 112, 32, 105, 102, 32, 98, 32, 115, 97, 121, 115, 46], [97, 32, 115, 97, 121, 115, 32, 98, 32, 99, 97, 110, 115, 97, 121, 46], [88, 32, 115, 97, 121, 115, 32, 112, 46]]
def want10 : List Int := [0, 3, 3, 3, 3, 4, 3, 3, 3, 3, 3, 3]
def at10 : List Nat := [0, 15, 10, 7, 12, 21, 9, 7, 6, 18, 15, 0]
theorem texts10_pol : texts10.map (fun s => (policyL s).2) = at10.zip want10 := by kernel_rfl
def big10 : Txt := [112, 114, 105, 110, 99, 105, 112, 97, 108, 32, 97, 46, 112, 114, 101, 100, 32, 112, 47, 50, 46, 99, 108, 101, 97, 114, 32, 97, 58, 98, 44, 99, 46, 113, 117, 111, 116, 97, 32, 48, 46, 98, 117, 100, 103, 101, 116, 32, 55, 46, 97, 32, 115, 97, 121, 115, 32, 112, 40, 88, 44, 57, 41, 105, 102, 32, 98, 32, 115, 97, 121, 115, 32, 111, 112, 101, 110, 44, 99, 32, 115, 97, 121, 115, 32, 112, 40, 88, 44, 88, 41, 46]
theorem big10_pol : policyL big10 = ((⟨[[97]], [([112], 2)], [([97], [[98], [99]])], 0, 7, [((([97], [112], 2, (true, [88]), (false, [57]), (false, []), (false, [])) : Atm), [(([98], [111, 112, 101, 110], 0, (false, []), (false, []), (false, []), (false, [])) : Atm), (([99], [112], 2, (true, [88]), (true, [88]), (false, []), (false, [])) : Atm)])], []⟩ : Pol), 0, 0) := by kernel_rfl
def goalA : Txt := [97, 32, 115, 97, 121, 115, 32, 112, 40, 88, 41, 63]
def goalB : Txt := [97, 32, 115, 97, 121, 115, 32, 112, 40, 88, 41]
def goalC : Txt := [97, 32, 115, 97, 121, 115, 32, 112, 40, 88, 41, 63, 32, 46]
def atomD : Txt := [32, 97, 32, 115, 97, 121, 115, 32, 111, 112, 101, 110, 32]
theorem goalA_says : oneL (some [63]) goalA = ((([97], [112], 1, (true, [88]), (false, []), (false, []), (false, [])) : Atm), 0, 0) := by kernel_rfl
theorem goalB_says : oneL (some [63]) goalB = (zeroA, 11, 3) := by kernel_rfl
theorem goalC_says : oneL (some [63]) goalC = (zeroA, 13, 3) := by kernel_rfl
theorem atomD_says : oneL none atomD = ((([97], [111, 112, 101, 110], 0, (false, []), (false, []), (false, []), (false, [])) : Atm), 0, 0) := by kernel_rfl
/-- A row that has just been made. -/
theorem own_fresh {W : World} {g D K n : Nat} {cs : Array Value} {e : TypeId} (h : Cel W g cs e) (hn : cs.size = n * K) (hD : D ≤ g) (hm : n ≤ maxLen) : W.ownsRow D e K (.slice (some ⟨g, 0, none⟩) n n) n cs.toList :=
  ⟨by rw [Array.length_toList, hn], .inr ⟨g, n, cs, rfl, hD, h, Nat.le_refl _, hm, hn, List.take_of_length_le (by rw [Array.length_toList, hn]; exact Nat.le_refl _)⟩⟩
theorem apart_two (n : Nat) : apartV (.slice (some ⟨n + 1 + 1, 0, none⟩) 2 2) (.slice (some ⟨n, 0, none⟩) 1 1) := .inr (fun h => by
  have h2 : some (n + 1 + 1) = some n := h
  injection h2 with h2
  omega)
set_option maxHeartbeats 2000000 in
set_option maxRecDepth 100000 in
theorem kA_none (s p : List UInt8) (w : World) :
    Calls Tryz.prog 26 #[.string ⟨s.toArray⟩, .string ⟨p.toArray⟩, .slice none 0 0] w fun e w' => e = .returned (.agg #[.string ⟨s.toArray⟩, .string ⟨p.toArray⟩, .int .i64 0, .bool false, .string ⟨#[]⟩, .bool false, .string ⟨#[]⟩, .bool false, .string ⟨#[]⟩, .bool false, .string ⟨#[]⟩]) ∧ Since w w' := by
  go_enter Tryz.func26, Tryz.ntmps26
  go_wp2_with fail
  refine wp_loop_rounds 1 ?_
  rw [rounds_succ]
  go_wp2_with fail
  refine bodyPost_ret (v := .agg #[.string ⟨s.toArray⟩, .string ⟨p.toArray⟩, .int .i64 0, .bool false, .string ⟨#[]⟩, .bool false, .string ⟨#[]⟩, .bool false, .string ⟨#[]⟩, .bool false, .string ⟨#[]⟩]) (by simp [results, Tryz.results26, go_sem]) rfl ⟨rfl, ?_⟩
  repeat (first | exact Since.refl _ | refine Since.alloc ?_ _ | refine Since.setCell ?_ (by simp) _)
set_option maxHeartbeats 4000000 in
set_option maxRecDepth 100000 in
theorem fault_any (s : Txt) (hs : s.length ≤ maxLen) (w : World) (hE : EnvT w) : Calls Tryz.prog 25 #[.string ⟨s.toArray⟩] w fun e w' => e = .returned (.tuple #[.int .i64 (policyL s).2.2, .int .i64 ((policyL s).2.1 : Int)]) ∧ Since w w' := by
  have HP := Lib.hid (policy_any s hs w hE)
  unfold PolPost at HP
  obtain ⟨⟨P, at_, er⟩, hR⟩ : ∃ R, Hid (R = policyL s) := ⟨policyL s, rfl⟩
  rw [← hR.out] at HP ⊢
  simp only at HP ⊢
  obtain ⟨K, hK⟩ : ∃ K : Ending → World → Prop, Hid (K = fun e w' => e = .returned (.tuple #[.int .i64 er, .int .i64 (at_ : Int)]) ∧ Since w w') := ⟨_, rfl⟩
  have hgood : Hid (∀ w', Since w w' → K (.returned (.tuple #[.int .i64 er, .int .i64 (at_ : Int)])) w') := fun w' h => by rw [hK.out]; exact ⟨rfl, h⟩
  rw [← hK.out]
  clear hE hK hR hs
  go_enter Tryz.func25, Tryz.ntmps25
  go_wp2_with fail
  refine HP.out.mono ?_
  rintro e w6 ⟨c3, c4, c5, c6, c7, c8, c9, C, U, G, rfl, hO, hS⟩
  obtain ⟨a3, e3, a4, e4, a5, e5, a8, e8, a9, e9, v3, v4, v5, v6, v7, v8, v9⟩ := pol_cells2 hO
  subst v3 v4 v5 v6 v7 v8 v9
  have hSf := hS.alloc (.cells #[.slice a3 P.pr.length e3, .slice a4 P.pd.length e4, .slice a5 P.cl.length e5, .int .i64 P.qu, .int .i64 P.bu, .slice a8 P.ru.length e8, .slice a9 P.gr.length e9] 29)
  clear hO HP
  go_wp2_with fail
  exact hgood.out _ hSf
theorem texts10_at (k : Nat) (h : k < 12) : ∃ x E A, texts10[k]? = some x ∧ want10[k]? = some E ∧ at10[k]? = some A ∧ (policyL x).2 = (A, E) := by
  have h1 : k < texts10.length := h
  have h2 : k < want10.length := h
  have h3 : k < at10.length := h
  refine ⟨texts10[k], want10[k], at10[k], List.getElem?_eq_getElem h1, List.getElem?_eq_getElem h2, List.getElem?_eq_getElem h3, ?_⟩
  have g := congrArg (fun l => l[k]?) texts10_pol
  simp only [List.getElem?_map, List.getElem?_eq_getElem h1, Option.map_some] at g
  have g2 := g.symm
  rw [List.getElem?_zip_eq_some] at g2
  rw [List.getElem?_eq_getElem h3, List.getElem?_eq_getElem h2] at g2
  obtain ⟨g3, g4⟩ := g2
  injection g3 with g3
  injection g4 with g4
  exact Prod.ext g3.symm g4.symm
theorem texts10_len : ∀ x ∈ texts10, x.length ≤ 30 := by decide
set_option maxHeartbeats 8000000 in
set_option maxRecDepth 100000 in
theorem pnames_any (w : World) (hE : EnvT w) : Calls Tryz.prog 7 #[] w fun e w' => e = .returned (.bool true) ∧ Since w w' := by
  obtain ⟨K, hK⟩ : ∃ K : Ending → World → Prop, Hid (K = fun e w' => e = .returned (.bool true) ∧ Since w w') := ⟨_, rfl⟩
  have hgood : Hid (∀ w', Since w w' → K (.returned (.bool true)) w') := fun w' h => by rw [hK.out]; exact ⟨rfl, h⟩
  rw [← hK.out]
  have HL : Hid (Calls Tryz.prog 10 #[] w fun e w' => e = .returned (.bool true) ∧ Since w w') := lives10_any w hE
  have HEN := Lib.hid (fun W (h : Since w W) => hE.next h)
  clear hE hK
  go_enter Tryz.func7, Tryz.ntmps7
  go_wp2_with fail
  refine HL.out.mono ?_
  rintro e w2 ⟨rfl, hS2⟩
  clear HL
  obtain ⟨w3, hw3⟩ : ∃ W, Hid (W = ((w2.alloc (.cells #[.string ⟨#[]⟩, .string ⟨#[112, 114, 105, 110, 99, 105, 112, 97, 108, 32, 97, 108, 105, 99, 101]⟩, .string ⟨#[112, 114, 105, 110, 99, 105, 112, 97, 108, 32, 115, 97, 121, 115, 46]⟩, .string ⟨#[112, 114, 101, 100, 32, 112, 47, 48, 49, 46]⟩, .string ⟨#[99, 108, 101, 97, 114, 32, 97, 58, 32, 98, 44, 32, 46]⟩, .string ⟨#[97, 32, 115, 97, 121, 115, 32, 112, 40, 120, 44, 32, 121, 44, 32, 122, 44, 32, 119, 44, 32, 118, 41, 46]⟩, .string ⟨#[97, 32, 115, 97, 121, 115, 32, 112, 40, 41, 46]⟩, .string ⟨#[97, 32, 115, 97, 121, 115, 32, 105, 102, 46]⟩, .string ⟨#[113, 117, 111, 116, 97, 32, 49, 50, 51, 52, 53, 54, 55, 56, 46]⟩, .string ⟨#[97, 32, 115, 97, 121, 115, 32, 112, 32, 105, 102, 32, 98, 32, 115, 97, 121, 115, 46]⟩, .string ⟨#[97, 32, 115, 97, 121, 115, 32, 98, 32, 99, 97, 110, 115, 97, 121, 46]⟩, .string ⟨#[88, 32, 115, 97, 121, 115, 32, 112, 46]⟩] 9)).alloc (.cells #[.int .i64 0, .int .i64 3, .int .i64 3, .int .i64 3, .int .i64 3, .int .i64 4, .int .i64 3, .int .i64 3, .int .i64 3, .int .i64 3, .int .i64 3, .int .i64 3] 30)).alloc (.cells #[.int .i64 0, .int .i64 15, .int .i64 10, .int .i64 7, .int .i64 12, .int .i64 21, .int .i64 9, .int .i64 7, .int .i64 6, .int .i64 18, .int .i64 15, .int .i64 0] 3)) := ⟨_, rfl⟩
  have hS3 : Since w w3 := by rw [hw3.out]; exact ((hS2.alloc _).alloc _).alloc _
  have c1 : Cel w3 w2.heap.size #[.string ⟨#[]⟩, .string ⟨#[112, 114, 105, 110, 99, 105, 112, 97, 108, 32, 97, 108, 105, 99, 101]⟩, .string ⟨#[112, 114, 105, 110, 99, 105, 112, 97, 108, 32, 115, 97, 121, 115, 46]⟩, .string ⟨#[112, 114, 101, 100, 32, 112, 47, 48, 49, 46]⟩, .string ⟨#[99, 108, 101, 97, 114, 32, 97, 58, 32, 98, 44, 32, 46]⟩, .string ⟨#[97, 32, 115, 97, 121, 115, 32, 112, 40, 120, 44, 32, 121, 44, 32, 122, 44, 32, 119, 44, 32, 118, 41, 46]⟩, .string ⟨#[97, 32, 115, 97, 121, 115, 32, 112, 40, 41, 46]⟩, .string ⟨#[97, 32, 115, 97, 121, 115, 32, 105, 102, 46]⟩, .string ⟨#[113, 117, 111, 116, 97, 32, 49, 50, 51, 52, 53, 54, 55, 56, 46]⟩, .string ⟨#[97, 32, 115, 97, 121, 115, 32, 112, 32, 105, 102, 32, 98, 32, 115, 97, 121, 115, 46]⟩, .string ⟨#[97, 32, 115, 97, 121, 115, 32, 98, 32, 99, 97, 110, 115, 97, 121, 46]⟩, .string ⟨#[88, 32, 115, 97, 121, 115, 32, 112, 46]⟩] 9 := by rw [hw3.out]; exact ((show Cel _ _ _ _ from heap_alloc_new w2 _).next ((Since.refl _).alloc _)).next ((Since.refl _).alloc _)
  have c2 : Cel w3 (w2.heap.size + 1) #[.int .i64 0, .int .i64 3, .int .i64 3, .int .i64 3, .int .i64 3, .int .i64 4, .int .i64 3, .int .i64 3, .int .i64 3, .int .i64 3, .int .i64 3, .int .i64 3] 30 := by
    rw [hw3.out]
    have h : Cel _ _ _ _ := heap_alloc_new (w2.alloc (.cells #[.string ⟨#[]⟩, .string ⟨#[112, 114, 105, 110, 99, 105, 112, 97, 108, 32, 97, 108, 105, 99, 101]⟩, .string ⟨#[112, 114, 105, 110, 99, 105, 112, 97, 108, 32, 115, 97, 121, 115, 46]⟩, .string ⟨#[112, 114, 101, 100, 32, 112, 47, 48, 49, 46]⟩, .string ⟨#[99, 108, 101, 97, 114, 32, 97, 58, 32, 98, 44, 32, 46]⟩, .string ⟨#[97, 32, 115, 97, 121, 115, 32, 112, 40, 120, 44, 32, 121, 44, 32, 122, 44, 32, 119, 44, 32, 118, 41, 46]⟩, .string ⟨#[97, 32, 115, 97, 121, 115, 32, 112, 40, 41, 46]⟩, .string ⟨#[97, 32, 115, 97, 121, 115, 32, 105, 102, 46]⟩, .string ⟨#[113, 117, 111, 116, 97, 32, 49, 50, 51, 52, 53, 54, 55, 56, 46]⟩, .string ⟨#[97, 32, 115, 97, 121, 115, 32, 112, 32, 105, 102, 32, 98, 32, 115, 97, 121, 115, 46]⟩, .string ⟨#[97, 32, 115, 97, 121, 115, 32, 98, 32, 99, 97, 110, 115, 97, 121, 46]⟩, .string ⟨#[88, 32, 115, 97, 121, 115, 32, 112, 46]⟩] 9)) (.cells #[.int .i64 0, .int .i64 3, .int .i64 3, .int .i64 3, .int .i64 3, .int .i64 4, .int .i64 3, .int .i64 3, .int .i64 3, .int .i64 3, .int .i64 3, .int .i64 3] 30)
    rw [World.size_alloc] at h
    exact h.next ((Since.refl _).alloc _)
  have c3 : Cel w3 (w2.heap.size + 1 + 1) #[.int .i64 0, .int .i64 15, .int .i64 10, .int .i64 7, .int .i64 12, .int .i64 21, .int .i64 9, .int .i64 7, .int .i64 6, .int .i64 18, .int .i64 15, .int .i64 0] 3 := by
    rw [hw3.out]
    have h : Cel _ _ _ _ := heap_alloc_new ((w2.alloc (.cells #[.string ⟨#[]⟩, .string ⟨#[112, 114, 105, 110, 99, 105, 112, 97, 108, 32, 97, 108, 105, 99, 101]⟩, .string ⟨#[112, 114, 105, 110, 99, 105, 112, 97, 108, 32, 115, 97, 121, 115, 46]⟩, .string ⟨#[112, 114, 101, 100, 32, 112, 47, 48, 49, 46]⟩, .string ⟨#[99, 108, 101, 97, 114, 32, 97, 58, 32, 98, 44, 32, 46]⟩, .string ⟨#[97, 32, 115, 97, 121, 115, 32, 112, 40, 120, 44, 32, 121, 44, 32, 122, 44, 32, 119, 44, 32, 118, 41, 46]⟩, .string ⟨#[97, 32, 115, 97, 121, 115, 32, 112, 40, 41, 46]⟩, .string ⟨#[97, 32, 115, 97, 121, 115, 32, 105, 102, 46]⟩, .string ⟨#[113, 117, 111, 116, 97, 32, 49, 50, 51, 52, 53, 54, 55, 56, 46]⟩, .string ⟨#[97, 32, 115, 97, 121, 115, 32, 112, 32, 105, 102, 32, 98, 32, 115, 97, 121, 115, 46]⟩, .string ⟨#[97, 32, 115, 97, 121, 115, 32, 98, 32, 99, 97, 110, 115, 97, 121, 46]⟩, .string ⟨#[88, 32, 115, 97, 121, 115, 32, 112, 46]⟩] 9)).alloc (.cells #[.int .i64 0, .int .i64 3, .int .i64 3, .int .i64 3, .int .i64 3, .int .i64 4, .int .i64 3, .int .i64 3, .int .i64 3, .int .i64 3, .int .i64 3, .int .i64 3] 30)) (.cells #[.int .i64 0, .int .i64 15, .int .i64 10, .int .i64 7, .int .i64 12, .int .i64 21, .int .i64 9, .int .i64 7, .int .i64 6, .int .i64 18, .int .i64 15, .int .i64 0] 3)
    rwa [World.size_alloc, World.size_alloc] at h
  have k1 : Hid (∀ k x, texts10[k]? = some x → w3.cell? ⟨w2.heap.size, k, none⟩ = some (.string ⟨x.toArray⟩)) := fun k x hx => by
    rw [c1.cell k]
    have h : (texts10.map fun x : Txt => (Value.string ⟨x.toArray⟩))[k]? = some (.string ⟨x.toArray⟩) := by rw [List.getElem?_map, hx]; rfl
    rw [← h, ← List.getElem?_toArray]
    rfl
  have k2 : Hid (∀ k E, want10[k]? = some E → w3.cell? ⟨w2.heap.size + 1, k, none⟩ = some (.int .i64 E)) := fun k x hx => by
    rw [c2.cell k]
    have h : (want10.map fun x : Int => (Value.int .i64 x))[k]? = some (.int .i64 x) := by rw [List.getElem?_map, hx]; rfl
    rw [← h, ← List.getElem?_toArray]
    rfl
  have k3 : Hid (∀ (k A : Nat), at10[k]? = some A → w3.cell? ⟨w2.heap.size + 1 + 1, k, none⟩ = some (.int .i64 (A : Int))) := fun k x hx => by
    rw [c3.cell k]
    have h : (at10.map fun x : Nat => (Value.int .i64 (x : Int)))[k]? = some (.int .i64 (x : Int)) := by rw [List.getElem?_map, hx]; rfl
    rw [← h, ← List.getElem?_toArray]
    rfl
  clear c1 c2 c3 hS2
  go_upto_region 6 with (fail)
  rw [← hw3.out]
  clear hw3
  go_wp2_with fail
  go_loopw [4, 5, 6] (fun i _ _ wr => ∃ k : Nat, k ≤ 12 ∧ i = .int .i64 (k : Int) ∧ Since w3 wr) (fun i _ _ _ => 12 - (intOf i).toNat)
  case atStart => exact ⟨0, Nat.zero_le _, rfl, Since.refl _⟩
  case round =>
  rename World => w4
  obtain ⟨k, hk, rfl, hb⟩ := hrel
  by_cases hlt : k < 12
  · have hlt2 : (k : Int) < 12 := by omega
    have hlt0 : (0 : Int) ≤ (k : Int) := by omega
    have hk1 : wrap64 ((k : Int) + 1) = (k : Int) + 1 := IntWalk.wrap64_in _ (by omega)
    obtain ⟨x, E, A, hx, hE, hA, hp⟩ := texts10_at k hlt
    have x1 := hb.cell (k1.out k x hx)
    have x2 := hb.cell (k2.out k E hE)
    have x3 := hb.cell (k3.out k A hA)
    have hlen := texts10_len x (List.mem_of_getElem? hx)
    have HF : Hid (Calls Tryz.prog 25 #[.string ⟨x.toArray⟩] w4 fun e w' => e = .returned (.tuple #[.int .i64 E, .int .i64 (A : Int)]) ∧ Since w4 w') := by
      have h := fault_any x (by unfold maxLen; omega) w4 (HEN.out _ (hS3.trans hb))
      rw [hp] at h
      exact h
    have hb0 := Lib.hid hb
    clear hx hE hA hp hlen hb
    go_wp2_with fail
    refine HF.out.mono ?_
    rintro e w5 ⟨rfl, hb⟩
    replace x2 := hb.cell x2
    replace x3 := hb.cell x3
    have hS5 := hb0.out.trans hb
    clear hb HF x1
    go_wp2_with fail
    go_roundw
    case rel => exact ⟨k + 1, hlt, congrArg (Value.int .i64) (cast_step k), hS5⟩
    case measure => rw [intOf_int, intOf_int]; omega
  have hlt2 : ¬ (k : Int) < 12 := by omega
  have hS4 := hS3.trans hb
  clear hk hlt k1 k2 k3 hS3 hb
  go_wp2_with fail
  have HPB := Lib.hid (fun W (h : Since w W) => policy_any big10 (by decide) W (HEN.out W h))
  unfold PolPost at HPB
  rw [big10_pol] at HPB
  refine (HPB.out _ hS4).mono ?_
  rintro e w5 ⟨c3, c4, c5, c6, c7, c8, c9, C, U, G, rfl, hO, hb⟩
  have hS5 := hS4.trans hb
  clear HPB hb hS4
  obtain ⟨a3, e3, a4, e4, a5, e5, a8, e8, a9, e9, v3, v4, v5, v6, v7, v8, v9⟩ := pol_cells2 hO
  replace v3 : c3 = .slice a3 1 e3 := v3
  replace v4 : c4 = .slice a4 1 e4 := v4
  replace v5 : c5 = .slice a5 1 e5 := v5
  replace v6 : c6 = .int .i64 0 := v6
  replace v7 : c7 = .int .i64 7 := v7
  replace v8 : c8 = .slice a8 1 e8 := v8
  replace v9 : c9 = .slice a9 0 e9 := v9
  subst v3 v4 v5 v6 v7 v8 v9
  obtain ⟨w6, hw6⟩ : ∃ W, Hid (W = w5.alloc (.cells #[.slice a3 1 e3, .slice a4 1 e4, .slice a5 1 e5, .int .i64 0, .int .i64 7, .slice a8 1 e8, .slice a9 0 e9] 29)) := ⟨_, rfl⟩
  have hb : Since w5 w6 := by rw [hw6.out]; exact (Since.refl w5).alloc _
  have hB6 : Cel w6 w5.heap.size #[.slice a3 1 e3, .slice a4 1 e4, .slice a5 1 e5, .int .i64 0, .int .i64 7, .slice a8 1 e8, .slice a9 0 e9] 29 := by rw [hw6.out]; exact heap_alloc_new w5 _
  have hS6 := hS5.trans hb
  have HO := Lib.hid (hO.next hb)
  clear hO hb hS5
  go_upto_region 13 with (fail)
  rw [← hw6.out]
  clear hw6
  obtain ⟨pb, hpb⟩ : ∃ x, Hid (x = w5.heap.size) := ⟨_, rfl⟩
  simp only [← hpb.out]
  rw [← hpb.out] at hB6
  clear hpb
  go_wp2_with fail
  obtain ⟨wA, hwA⟩ : ∃ W, Hid (W = (((((w6.alloc (.cells #[.string ⟨#[97]⟩] 9)).alloc (.cells #[.string ⟨#[112]⟩, .int .i64 2] 36)).alloc (.cells #[.string ⟨#[98]⟩, .string ⟨#[99]⟩] 9)).alloc (.cells #[.string ⟨#[97]⟩, .slice (some ⟨w6.heap.size + 1 + 1, 0, none⟩) 2 2] 38)).alloc (.cells #[.string ⟨#[88]⟩, .string ⟨#[57]⟩] 9))) := ⟨_, rfl⟩
  have hb : Since w6 wA := by rw [hwA.out]; exact (((((Since.refl w6).alloc _).alloc _).alloc _).alloc _).alloc _
  have r1 : Cel wA (w6.heap.size) #[.string ⟨#[97]⟩] 9 := by
    rw [hwA.out]
    have h : Cel _ _ _ _ := heap_alloc_new w6 (.cells #[.string ⟨#[97]⟩] 9)
    exact ((((h.next ((Since.refl _).alloc _)).next ((Since.refl _).alloc _)).next ((Since.refl _).alloc _)).next ((Since.refl _).alloc _))
  have r2 : Cel wA (w6.heap.size + 1) #[.string ⟨#[112]⟩, .int .i64 2] 36 := by
    rw [hwA.out]
    have h : Cel _ _ _ _ := heap_alloc_new (w6.alloc (.cells #[.string ⟨#[97]⟩] 9)) (.cells #[.string ⟨#[112]⟩, .int .i64 2] 36)
    rw [World.size_alloc] at h
    exact (((h.next ((Since.refl _).alloc _)).next ((Since.refl _).alloc _)).next ((Since.refl _).alloc _))
  have r3 : Cel wA (w6.heap.size + 1 + 1) #[.string ⟨#[98]⟩, .string ⟨#[99]⟩] 9 := by
    rw [hwA.out]
    have h : Cel _ _ _ _ := heap_alloc_new ((w6.alloc (.cells #[.string ⟨#[97]⟩] 9)).alloc (.cells #[.string ⟨#[112]⟩, .int .i64 2] 36)) (.cells #[.string ⟨#[98]⟩, .string ⟨#[99]⟩] 9)
    rw [World.size_alloc, World.size_alloc] at h
    exact ((h.next ((Since.refl _).alloc _)).next ((Since.refl _).alloc _))
  have r4 : Cel wA (w6.heap.size + 1 + 1 + 1) #[.string ⟨#[97]⟩, .slice (some ⟨w6.heap.size + 1 + 1, 0, none⟩) 2 2] 38 := by
    rw [hwA.out]
    have h : Cel _ _ _ _ := heap_alloc_new (((w6.alloc (.cells #[.string ⟨#[97]⟩] 9)).alloc (.cells #[.string ⟨#[112]⟩, .int .i64 2] 36)).alloc (.cells #[.string ⟨#[98]⟩, .string ⟨#[99]⟩] 9)) (.cells #[.string ⟨#[97]⟩, .slice (some ⟨w6.heap.size + 1 + 1, 0, none⟩) 2 2] 38)
    rw [World.size_alloc, World.size_alloc, World.size_alloc] at h
    exact (h.next ((Since.refl _).alloc _))
  have r5 : Cel wA (w6.heap.size + 1 + 1 + 1 + 1) #[.string ⟨#[88]⟩, .string ⟨#[57]⟩] 9 := by
    rw [hwA.out]
    have h : Cel _ _ _ _ := heap_alloc_new ((((w6.alloc (.cells #[.string ⟨#[97]⟩] 9)).alloc (.cells #[.string ⟨#[112]⟩, .int .i64 2] 36)).alloc (.cells #[.string ⟨#[98]⟩, .string ⟨#[99]⟩] 9)).alloc (.cells #[.string ⟨#[97]⟩, .slice (some ⟨w6.heap.size + 1 + 1, 0, none⟩) 2 2] 38)) (.cells #[.string ⟨#[88]⟩, .string ⟨#[57]⟩] 9)
    rw [World.size_alloc, World.size_alloc, World.size_alloc, World.size_alloc] at h
    exact h
  rw [← hwA.out]
  have hSA := hS6.trans hb
  replace hB6 := hB6.next hb
  replace HO := Lib.hid (HO.out.next hb)
  clear hb hwA
  refine (kA_X_9 [97] [112] (w6.heap.size + 1 + 1 + 1 + 1) 0 2 wA (r5.cell 0) (r5.cell 1)).mono ?_
  rintro e w7 ⟨rfl, hb⟩
  have hS7 := hSA.trans hb
  replace r1 := r1.next hb
  replace r2 := r2.next hb
  replace r3 := r3.next hb
  replace r4 := r4.next hb
  replace hB6 := hB6.next hb
  replace HO := Lib.hid (HO.out.next hb)
  clear hb r5 hSA hS6
  obtain ⟨n, hn⟩ : ∃ x, Hid (x = w6.heap.size) := ⟨_, rfl⟩
  simp only [← hn.out]
  rw [← hn.out] at r1 r2 r3 r4
  clear hn
  go_wp2_with fail
  refine (kA_none [98] [111, 112, 101, 110] _).mono ?_
  rintro e w8 ⟨rfl, hb⟩
  have hS8 := hS7.trans hb
  replace r1 := r1.next hb
  replace r2 := r2.next hb
  replace r3 := r3.next hb
  replace r4 := r4.next hb
  replace hB6 := hB6.next hb
  replace HO := Lib.hid (HO.out.next hb)
  clear hb hS7
  go_wp2_with fail
  have hX : Cel (w8.alloc (.cells #[.string ⟨#[88]⟩, .string ⟨#[88]⟩] 9)) w8.heap.size #[.string ⟨#[88]⟩, .string ⟨#[88]⟩] 9 := heap_alloc_new w8 _
  refine (kA_X_X [99] [112] w8.heap.size 0 2 _ (hX.cell 0) (hX.cell 1)).mono ?_
  rintro e w9 ⟨rfl, hb⟩
  replace hb := ((Since.refl w8).alloc (.cells #[.string ⟨#[88]⟩, .string ⟨#[88]⟩] 9)).trans hb
  have hS9 := hS8.trans hb
  replace r1 := r1.next hb
  replace r2 := r2.next hb
  replace r3 := r3.next hb
  replace r4 := r4.next hb
  replace hB6 := hB6.next hb
  replace HO := Lib.hid (HO.out.next hb)
  clear hb hS8 hX
  obtain ⟨wB, hwB⟩ : ∃ W, Hid (W = (((w9.alloc (.cells #[.string ⟨#[98]⟩, .string ⟨#[111, 112, 101, 110]⟩, .int .i64 0, .bool false, .string ⟨#[]⟩, .bool false, .string ⟨#[]⟩, .bool false, .string ⟨#[]⟩, .bool false, .string ⟨#[]⟩, .string ⟨#[99]⟩, .string ⟨#[112]⟩, .int .i64 2, .bool true, .string ⟨#[88]⟩, .bool true, .string ⟨#[88]⟩, .bool false, .string ⟨#[]⟩, .bool false, .string ⟨#[]⟩] 44)).alloc (.cells #[.string ⟨#[97]⟩, .string ⟨#[112]⟩, .int .i64 2, .bool true, .string ⟨#[88]⟩, .bool false, .string ⟨#[57]⟩, .bool false, .string ⟨#[]⟩, .bool false, .string ⟨#[]⟩, .slice (some ⟨w9.heap.size, 0, none⟩) 2 2] 47)).alloc (.cells #[.slice (some ⟨n, 0, none⟩) 1 1, .slice (some ⟨n + 1, 0, none⟩) 1 1, .slice (some ⟨n + 1 + 1 + 1, 0, none⟩) 1 1, .int .i64 0, .int .i64 7, .slice (some ⟨w9.heap.size + 1, 0, none⟩) 1 1, .slice none 0 0] 29))) := ⟨_, rfl⟩
  have hb : Since w9 wB := by rw [hwB.out]; exact (((Since.refl w9).alloc _).alloc _).alloc _
  have s1 : Cel wB (w9.heap.size) #[.string ⟨#[98]⟩, .string ⟨#[111, 112, 101, 110]⟩, .int .i64 0, .bool false, .string ⟨#[]⟩, .bool false, .string ⟨#[]⟩, .bool false, .string ⟨#[]⟩, .bool false, .string ⟨#[]⟩, .string ⟨#[99]⟩, .string ⟨#[112]⟩, .int .i64 2, .bool true, .string ⟨#[88]⟩, .bool true, .string ⟨#[88]⟩, .bool false, .string ⟨#[]⟩, .bool false, .string ⟨#[]⟩] 44 := by
    rw [hwB.out]
    have h : Cel _ _ _ _ := heap_alloc_new w9 (.cells #[.string ⟨#[98]⟩, .string ⟨#[111, 112, 101, 110]⟩, .int .i64 0, .bool false, .string ⟨#[]⟩, .bool false, .string ⟨#[]⟩, .bool false, .string ⟨#[]⟩, .bool false, .string ⟨#[]⟩, .string ⟨#[99]⟩, .string ⟨#[112]⟩, .int .i64 2, .bool true, .string ⟨#[88]⟩, .bool true, .string ⟨#[88]⟩, .bool false, .string ⟨#[]⟩, .bool false, .string ⟨#[]⟩] 44)
    exact ((h.next ((Since.refl _).alloc _)).next ((Since.refl _).alloc _))
  have s2 : Cel wB (w9.heap.size + 1) #[.string ⟨#[97]⟩, .string ⟨#[112]⟩, .int .i64 2, .bool true, .string ⟨#[88]⟩, .bool false, .string ⟨#[57]⟩, .bool false, .string ⟨#[]⟩, .bool false, .string ⟨#[]⟩, .slice (some ⟨w9.heap.size, 0, none⟩) 2 2] 47 := by
    rw [hwB.out]
    have h : Cel _ _ _ _ := heap_alloc_new (w9.alloc (.cells #[.string ⟨#[98]⟩, .string ⟨#[111, 112, 101, 110]⟩, .int .i64 0, .bool false, .string ⟨#[]⟩, .bool false, .string ⟨#[]⟩, .bool false, .string ⟨#[]⟩, .bool false, .string ⟨#[]⟩, .string ⟨#[99]⟩, .string ⟨#[112]⟩, .int .i64 2, .bool true, .string ⟨#[88]⟩, .bool true, .string ⟨#[88]⟩, .bool false, .string ⟨#[]⟩, .bool false, .string ⟨#[]⟩] 44)) (.cells #[.string ⟨#[97]⟩, .string ⟨#[112]⟩, .int .i64 2, .bool true, .string ⟨#[88]⟩, .bool false, .string ⟨#[57]⟩, .bool false, .string ⟨#[]⟩, .bool false, .string ⟨#[]⟩, .slice (some ⟨w9.heap.size, 0, none⟩) 2 2] 47)
    rw [World.size_alloc] at h
    exact (h.next ((Since.refl _).alloc _))
  have s3 : Cel wB (w9.heap.size + 1 + 1) #[.slice (some ⟨n, 0, none⟩) 1 1, .slice (some ⟨n + 1, 0, none⟩) 1 1, .slice (some ⟨n + 1 + 1 + 1, 0, none⟩) 1 1, .int .i64 0, .int .i64 7, .slice (some ⟨w9.heap.size + 1, 0, none⟩) 1 1, .slice none 0 0] 29 := by
    rw [hwB.out]
    have h : Cel _ _ _ _ := heap_alloc_new ((w9.alloc (.cells #[.string ⟨#[98]⟩, .string ⟨#[111, 112, 101, 110]⟩, .int .i64 0, .bool false, .string ⟨#[]⟩, .bool false, .string ⟨#[]⟩, .bool false, .string ⟨#[]⟩, .bool false, .string ⟨#[]⟩, .string ⟨#[99]⟩, .string ⟨#[112]⟩, .int .i64 2, .bool true, .string ⟨#[88]⟩, .bool true, .string ⟨#[88]⟩, .bool false, .string ⟨#[]⟩, .bool false, .string ⟨#[]⟩] 44)).alloc (.cells #[.string ⟨#[97]⟩, .string ⟨#[112]⟩, .int .i64 2, .bool true, .string ⟨#[88]⟩, .bool false, .string ⟨#[57]⟩, .bool false, .string ⟨#[]⟩, .bool false, .string ⟨#[]⟩, .slice (some ⟨w9.heap.size, 0, none⟩) 2 2] 47)) (.cells #[.slice (some ⟨n, 0, none⟩) 1 1, .slice (some ⟨n + 1, 0, none⟩) 1 1, .slice (some ⟨n + 1 + 1 + 1, 0, none⟩) 1 1, .int .i64 0, .int .i64 7, .slice (some ⟨w9.heap.size + 1, 0, none⟩) 1 1, .slice none 0 0] 29)
    rw [World.size_alloc, World.size_alloc] at h
    exact h
  have hSB := hS9.trans hb
  replace r1 := r1.next hb
  replace r2 := r2.next hb
  replace r3 := r3.next hb
  replace r4 := r4.next hb
  replace hB6 := hB6.next hb
  replace HO := Lib.hid (HO.out.next hb)
  clear hb hS9
  go_upto_region 14 with (fail)
  rw [← hwB.out]
  clear hwB
  obtain ⟨m, hm⟩ : ∃ x, Hid (x = w9.heap.size) := ⟨_, rfl⟩
  simp only [← hm.out]
  rw [← hm.out] at s1 s2 s3
  clear hm
  have HGA : Hid (∀ W, Since w W → Calls Tryz.prog 24 #[.string ⟨goalA.toArray⟩] W fun e w' => e = .returned (.tuple #[.agg #[.string ⟨#[97]⟩, .string ⟨#[112]⟩, .int .i64 1, .bool true, .string ⟨#[88]⟩, .bool false, .string ⟨#[]⟩, .bool false, .string ⟨#[]⟩, .bool false, .string ⟨#[]⟩], .int .i64 0, .int .i64 0]) ∧ Since W w') := fun W h => by
    have h := pub_goal_any goalA (by decide) W (HEN.out W h)
    rw [goalA_says] at h
    exact h
  have HGB : Hid (∀ W, Since w W → Calls Tryz.prog 24 #[.string ⟨goalB.toArray⟩] W fun e w' => e = .returned (.tuple #[.agg #[.string ⟨#[]⟩, .string ⟨#[]⟩, .int .i64 0, .bool false, .string ⟨#[]⟩, .bool false, .string ⟨#[]⟩, .bool false, .string ⟨#[]⟩, .bool false, .string ⟨#[]⟩], .int .i64 11, .int .i64 3]) ∧ Since W w') := fun W h => by
    have h := pub_goal_any goalB (by decide) W (HEN.out W h)
    rw [goalB_says] at h
    exact h
  have HGC : Hid (∀ W, Since w W → Calls Tryz.prog 24 #[.string ⟨goalC.toArray⟩] W fun e w' => e = .returned (.tuple #[.agg #[.string ⟨#[]⟩, .string ⟨#[]⟩, .int .i64 0, .bool false, .string ⟨#[]⟩, .bool false, .string ⟨#[]⟩, .bool false, .string ⟨#[]⟩, .bool false, .string ⟨#[]⟩], .int .i64 13, .int .i64 3]) ∧ Since W w') := fun W h => by
    have h := pub_goal_any goalC (by decide) W (HEN.out W h)
    rw [goalC_says] at h
    exact h
  have HGD : Hid (∀ W, Since w W → Calls Tryz.prog 27 #[.string ⟨atomD.toArray⟩] W fun e w' => e = .returned (.tuple #[.agg #[.string ⟨#[97]⟩, .string ⟨#[111, 112, 101, 110]⟩, .int .i64 0, .bool false, .string ⟨#[]⟩, .bool false, .string ⟨#[]⟩, .bool false, .string ⟨#[]⟩, .bool false, .string ⟨#[]⟩], .int .i64 0, .int .i64 0]) ∧ Since W w') := fun W h => by
    have h := pub_atom_any atomD (by decide) W (HEN.out W h)
    rw [atomD_says] at h
    exact h
  have hQO : POwn wB 0 (.slice (some ⟨n, 0, none⟩) 1 1) (.slice (some ⟨n + 1, 0, none⟩) 1 1) (.slice (some ⟨n + 1 + 1 + 1, 0, none⟩) 1 1) (.int .i64 0) (.int .i64 7) (.slice (some ⟨m + 1, 0, none⟩) 1 1) (.slice none 0 0) (⟨[[97]], [([112], 2)], [([97], [[98], [99]])], 0, 7, [((([97], [112], 2, (true, [88]), (false, [57]), (false, []), (false, [])) : Atm), [(([98], [111, 112, 101, 110], 0, (false, []), (false, []), (false, []), (false, [])) : Atm), (([99], [112], 2, (true, [88]), (true, [88]), (false, []), (false, [])) : Atm)])], []⟩ : Pol) [((([97], [[98], [99]]) : Clr), .slice (some ⟨n + 1 + 1, 0, none⟩) 2 2)] [((((([97], [112], 2, (true, [88]), (false, [57]), (false, []), (false, [])) : Atm), [(([98], [111, 112, 101, 110], 0, (false, []), (false, []), (false, []), (false, [])) : Atm), (([99], [112], 2, (true, [88]), (true, [88]), (false, []), (false, [])) : Atm)]) : Rul), .slice (some ⟨m, 0, none⟩) 2 2)] [] :=
    ⟨own_fresh r1 rfl (Nat.zero_le _) (by decide), own_fresh r2 rfl (Nat.zero_le _) (by decide), ⟨own_fresh r4 rfl (Nat.zero_le _) (by decide), fun p hp => by rw [List.mem_singleton] at hp; subst hp; exact own_fresh r3 rfl (Nat.zero_le _) (by decide), List.pairwise_singleton _ _⟩, ⟨own_fresh s2 rfl (Nat.zero_le _) (by decide), fun p hp => by rw [List.mem_singleton] at hp; subst hp; exact own_fresh s1 rfl (Nat.zero_le _) (by decide), List.pairwise_singleton _ _⟩, Nest.nil, rfl, rfl, rfl, rfl, rfl, fun p hp => by rw [List.mem_singleton] at hp; subst hp; exact apart_two n, fun _ _ _ h => (by cases h)⟩
  have HQ := Lib.hid hQO
  clear hQO r1 r2 r3 r4 s1 s2 HEN
  go_wp2_with fail
  refine (HGA.out _ hSB).mono ?_
  rintro e w11 ⟨rfl, hb⟩
  have hS11 := hSB.trans hb
  replace hB6 := hB6.next hb
  replace s3 := s3.next hb
  replace HO := Lib.hid (HO.out.next hb)
  replace HQ := Lib.hid (HQ.out.next hb)
  clear hb HGA hSB
  obtain ⟨w12, hw⟩ : ∃ W, Hid (W = w11.alloc (.cells #[.string ⟨#[97]⟩, .string ⟨#[112]⟩, .int .i64 1, .bool true, .string ⟨#[88]⟩, .bool false, .string ⟨#[]⟩, .bool false, .string ⟨#[]⟩, .bool false, .string ⟨#[]⟩] 44)) := ⟨_, rfl⟩
  have hb : Since w11 w12 := by rw [hw.out]; exact (Since.refl _).alloc _
  have hG1 : Cel w12 w11.heap.size #[.string ⟨#[97]⟩, .string ⟨#[112]⟩, .int .i64 1, .bool true, .string ⟨#[88]⟩, .bool false, .string ⟨#[]⟩, .bool false, .string ⟨#[]⟩, .bool false, .string ⟨#[]⟩] 44 := by rw [hw.out]; exact heap_alloc_new _ _
  have hS12 := hS11.trans hb
  replace hB6 := hB6.next hb
  replace s3 := s3.next hb
  replace HO := Lib.hid (HO.out.next hb)
  replace HQ := Lib.hid (HQ.out.next hb)
  clear hb hS11
  go_upto_region 15 with (fail)
  rw [← hw.out]
  clear hw
  obtain ⟨ga, hg⟩ : ∃ x, Hid (x = w11.heap.size) := ⟨_, rfl⟩
  simp only [← hg.out]
  rw [← hg.out] at hG1
  clear hg
  go_wp2_with fail
  refine (HGB.out _ hS12).mono ?_
  rintro e w13 ⟨rfl, hb⟩
  have hS13 := hS12.trans hb
  replace hB6 := hB6.next hb
  replace s3 := s3.next hb
  replace hG1 := hG1.next hb
  replace HO := Lib.hid (HO.out.next hb)
  replace HQ := Lib.hid (HQ.out.next hb)
  clear hb HGB hS12
  obtain ⟨w14, hw⟩ : ∃ W, Hid (W = w13.alloc (.cells #[.string ⟨#[]⟩, .string ⟨#[]⟩, .int .i64 0, .bool false, .string ⟨#[]⟩, .bool false, .string ⟨#[]⟩, .bool false, .string ⟨#[]⟩, .bool false, .string ⟨#[]⟩] 44)) := ⟨_, rfl⟩
  have hb : Since w13 w14 := by rw [hw.out]; exact (Since.refl _).alloc _
  have hS14 := hS13.trans hb
  replace hB6 := hB6.next hb
  replace s3 := s3.next hb
  replace hG1 := hG1.next hb
  replace HO := Lib.hid (HO.out.next hb)
  replace HQ := Lib.hid (HQ.out.next hb)
  clear hb hS13
  go_upto_region 16 with (fail)
  rw [← hw.out]
  clear hw
  go_wp2_with fail
  refine (HGC.out _ hS14).mono ?_
  rintro e w15 ⟨rfl, hb⟩
  have hS15 := hS14.trans hb
  replace hB6 := hB6.next hb
  replace s3 := s3.next hb
  replace hG1 := hG1.next hb
  replace HO := Lib.hid (HO.out.next hb)
  replace HQ := Lib.hid (HQ.out.next hb)
  clear hb HGC hS14
  obtain ⟨w16, hw⟩ : ∃ W, Hid (W = w15.alloc (.cells #[.string ⟨#[]⟩, .string ⟨#[]⟩, .int .i64 0, .bool false, .string ⟨#[]⟩, .bool false, .string ⟨#[]⟩, .bool false, .string ⟨#[]⟩, .bool false, .string ⟨#[]⟩] 44)) := ⟨_, rfl⟩
  have hb : Since w15 w16 := by rw [hw.out]; exact (Since.refl _).alloc _
  have hS16 := hS15.trans hb
  replace hB6 := hB6.next hb
  replace s3 := s3.next hb
  replace hG1 := hG1.next hb
  replace HO := Lib.hid (HO.out.next hb)
  replace HQ := Lib.hid (HQ.out.next hb)
  clear hb hS15
  go_upto_region 17 with (fail)
  rw [← hw.out]
  clear hw
  go_wp2_with fail
  refine (HGD.out _ hS16).mono ?_
  rintro e w17 ⟨rfl, hb⟩
  have hS17 := hS16.trans hb
  replace hB6 := hB6.next hb
  replace s3 := s3.next hb
  replace hG1 := hG1.next hb
  replace HO := Lib.hid (HO.out.next hb)
  replace HQ := Lib.hid (HQ.out.next hb)
  clear hb HGD hS16
  obtain ⟨w18, hw⟩ : ∃ W, Hid (W = w17.alloc (.cells #[.string ⟨#[97]⟩, .string ⟨#[111, 112, 101, 110]⟩, .int .i64 0, .bool false, .string ⟨#[]⟩, .bool false, .string ⟨#[]⟩, .bool false, .string ⟨#[]⟩, .bool false, .string ⟨#[]⟩] 44)) := ⟨_, rfl⟩
  have hb : Since w17 w18 := by rw [hw.out]; exact (Since.refl _).alloc _
  have hG2 : Cel w18 w17.heap.size #[.string ⟨#[97]⟩, .string ⟨#[111, 112, 101, 110]⟩, .int .i64 0, .bool false, .string ⟨#[]⟩, .bool false, .string ⟨#[]⟩, .bool false, .string ⟨#[]⟩, .bool false, .string ⟨#[]⟩] 44 := by rw [hw.out]; exact heap_alloc_new _ _
  have hS18 := hS17.trans hb
  replace hB6 := hB6.next hb
  replace s3 := s3.next hb
  replace hG1 := hG1.next hb
  replace HO := Lib.hid (HO.out.next hb)
  replace HQ := Lib.hid (HQ.out.next hb)
  clear hb hS17
  go_upto_region 18 with (fail)
  rw [← hw.out]
  clear hw
  obtain ⟨gd, hg⟩ : ∃ x, Hid (x = w17.heap.size) := ⟨_, rfl⟩
  simp only [← hg.out]
  rw [← hg.out] at hG2
  clear hg
  have hPb := hB6.at
  have hQb := s3.at
  have hGa := hG1.at
  have hGd := hG2.at
  have HSP : Hid (∀ W, Since w18 W → Calls Tryz.prog 12 #[.agg #[.slice a3 1 e3, .slice a4 1 e4, .slice a5 1 e5, .int .i64 0, .int .i64 7, .slice a8 1 e8, .slice a9 0 e9], .agg #[.slice (some ⟨n, 0, none⟩) 1 1, .slice (some ⟨n + 1, 0, none⟩) 1 1, .slice (some ⟨n + 1 + 1 + 1, 0, none⟩) 1 1, .int .i64 0, .int .i64 7, .slice (some ⟨m + 1, 0, none⟩) 1 1, .slice none 0 0]] W fun e w' => e = .returned (.bool true) ∧ Since W w') := fun W h => same_policy_any (HO.out.next h) (HQ.out.next h)
  clear hB6 s3 hG1 hG2 HO HQ
  have hs0 : Since w18 w18.drew := (Since.refl _).drew
  refine hx_begin (S := fun W => Since w18 W) (by kernel_rfl) hs0 (by kernel_rfl) (fun _ _ _ _ _ h => h) (fun hns hQ => ?_)
  refine hx_take (i := 0) (oi := _) (v := .int .i64 0) rfl rfl hns (by kernel_rfl) (by kernel_rfl) hQ (by kernel_rfl) (fun _ _ => by kernel_rfl) hs0 ?_
  refine hx_take (i := 1) (oi := _) (v := .bool true) rfl rfl hns (by kernel_rfl) (by kernel_rfl) hQ (by kernel_rfl) (fun W _ => eqs_intE (s := 0) rfl (by kernel_rfl) (by kernel_rfl) W) hs0 ?_
  refine hx_take (i := 2) (oi := _) (v := .bool true) rfl rfl hns (by kernel_rfl) (by kernel_rfl) hQ (by kernel_rfl) (fun _ _ => by kernel_rfl) hs0 ?_
  refine hx_take (i := 3) (oi := _) (v := .agg #[.slice a3 1 e3, .slice a4 1 e4, .slice a5 1 e5, .int .i64 0, .int .i64 7, .slice a8 1 e8, .slice a9 0 e9]) rfl rfl hns (by kernel_rfl) (by kernel_rfl) hQ (by kernel_rfl) (fun W hW => ld_at rfl (by kernel_rfl) (by kernel_rfl) (by kernel_rfl) W (hPb.next hW)) hs0 ?_
  refine hx_take (i := 4) (oi := _) (v := .agg #[.slice (some ⟨n, 0, none⟩) 1 1, .slice (some ⟨n + 1, 0, none⟩) 1 1, .slice (some ⟨n + 1 + 1 + 1, 0, none⟩) 1 1, .int .i64 0, .int .i64 7, .slice (some ⟨m + 1, 0, none⟩) 1 1, .slice none 0 0]) rfl rfl hns (by kernel_rfl) (by kernel_rfl) hQ (by kernel_rfl) (fun W hW => ld_at rfl (by kernel_rfl) (by kernel_rfl) (by kernel_rfl) W (hQb.next hW)) hs0 ?_
  refine hx_call (i := 5) (oi := _) 12 #[.agg #[.slice a3 1 e3, .slice a4 1 e4, .slice a5 1 e5, .int .i64 0, .int .i64 7, .slice a8 1 e8, .slice a9 0 e9], .agg #[.slice (some ⟨n, 0, none⟩) 1 1, .slice (some ⟨n + 1, 0, none⟩) 1 1, .slice (some ⟨n + 1 + 1 + 1, 0, none⟩) 1 1, .int .i64 0, .int .i64 7, .slice (some ⟨m + 1, 0, none⟩) 1 1, .slice none 0 0]] rfl rfl (by kernel_rfl) (by kernel_rfl) (by kernel_rfl) (HSP.out _ hs0) ?_
  rintro e wx51 ⟨rfl, hb⟩
  have hs1 : Since w18 wx51 := hs0.trans hb
  clear hb
  refine ⟨_, rfl, hs1, ?_⟩
  refine hx_take (i := 6) (oi := _) (v := .bool true) rfl rfl hns (by kernel_rfl) (by kernel_rfl) hQ (by kernel_rfl) (fun _ _ => by kernel_rfl) hs1 ?_
  refine hx_take (i := 7) (oi := _) (v := .bool true) rfl rfl hns (by kernel_rfl) (by kernel_rfl) hQ (by kernel_rfl) (fun _ _ => by kernel_rfl) hs1 ?_
  refine hx_take (i := 8) (oi := _) (v := .int .i64 0) rfl rfl hns (by kernel_rfl) (by kernel_rfl) hQ (by kernel_rfl) (fun _ _ => by kernel_rfl) hs1 ?_
  refine hx_take (i := 9) (oi := _) (v := .bool true) rfl rfl hns (by kernel_rfl) (by kernel_rfl) hQ (by kernel_rfl) (fun W _ => eqs_intE (s := 0) rfl (by kernel_rfl) (by kernel_rfl) W) hs1 ?_
  refine hx_take (i := 10) (oi := _) (v := .bool true) rfl rfl hns (by kernel_rfl) (by kernel_rfl) hQ (by kernel_rfl) (fun _ _ => by kernel_rfl) hs1 ?_
  refine hx_take (i := 11) (oi := _) (v := .bool true) rfl rfl hns (by kernel_rfl) (by kernel_rfl) hQ (by kernel_rfl) (fun _ _ => by kernel_rfl) hs1 ?_
  refine hx_take (i := 12) (oi := _) (v := .agg #[.string ⟨#[97]⟩, .string ⟨#[112]⟩, .int .i64 1, .bool true, .string ⟨#[88]⟩, .bool false, .string ⟨#[]⟩, .bool false, .string ⟨#[]⟩, .bool false, .string ⟨#[]⟩]) rfl rfl hns (by kernel_rfl) (by kernel_rfl) hQ (by kernel_rfl) (fun W hW => ld_at rfl (by kernel_rfl) (by kernel_rfl) (by kernel_rfl) W (hGa.next hW)) hs1 ?_
  have hs2 : Since w18 (wx51.alloc (.cells #[.string ⟨#[88]⟩] 9)) := hs1.alloc _
  refine hx_make (i := 13) (oi := _) (.slice (some ⟨wx51.heap.size, 0, none⟩) 1 1) (wx51.alloc (.cells #[.string ⟨#[88]⟩] 9)) rfl rfl (by kernel_rfl) (by kernel_rfl) (by kernel_rfl) hs2 ?_
  refine hx_call (i := 14) (oi := _) 26 #[.string ⟨#[97]⟩, .string ⟨#[112]⟩, .slice (some ⟨wx51.heap.size, 0, none⟩) 1 1] rfl rfl (by kernel_rfl) (by kernel_rfl) (by kernel_rfl) ((kA_X [97] [112] wx51.heap.size 0 1 (wx51.alloc (.cells #[.string ⟨#[88]⟩] 9)) (at_sole (heap_alloc_new _ _)))) ?_
  rintro e wx52 ⟨rfl, hb⟩
  have hs3 : Since w18 wx52 := hs2.trans hb
  clear hb
  refine ⟨_, rfl, hs3, ?_⟩
  refine hx_take (i := 15) (oi := _) (v := .bool true) rfl rfl hns (by kernel_rfl) (by kernel_rfl) hQ (by kernel_rfl) (fun W _ => eqs_atm [97] [112] 1 true false false false [88] [] [] [] rfl (by kernel_rfl) (by kernel_rfl) W) hs3 ?_
  refine hx_take (i := 16) (oi := _) (v := .bool true) rfl rfl hns (by kernel_rfl) (by kernel_rfl) hQ (by kernel_rfl) (fun _ _ => by kernel_rfl) hs3 ?_
  refine hx_take (i := 17) (oi := _) (v := .bool true) rfl rfl hns (by kernel_rfl) (by kernel_rfl) hQ (by kernel_rfl) (fun _ _ => by kernel_rfl) hs3 ?_
  refine hx_take (i := 18) (oi := _) (v := .int .i64 3) rfl rfl hns (by kernel_rfl) (by kernel_rfl) hQ (by kernel_rfl) (fun _ _ => by kernel_rfl) hs3 ?_
  refine hx_take (i := 19) (oi := _) (v := .bool true) rfl rfl hns (by kernel_rfl) (by kernel_rfl) hQ (by kernel_rfl) (fun W _ => eqs_intE (s := 3) rfl (by kernel_rfl) (by kernel_rfl) W) hs3 ?_
  refine hx_take (i := 20) (oi := _) (v := .bool true) rfl rfl hns (by kernel_rfl) (by kernel_rfl) hQ (by kernel_rfl) (fun _ _ => by kernel_rfl) hs3 ?_
  refine hx_take (i := 21) (oi := _) (v := .bool true) rfl rfl hns (by kernel_rfl) (by kernel_rfl) hQ (by kernel_rfl) (fun _ _ => by kernel_rfl) hs3 ?_
  refine hx_take (i := 22) (oi := _) (v := .int .i64 11) rfl rfl hns (by kernel_rfl) (by kernel_rfl) hQ (by kernel_rfl) (fun _ _ => by kernel_rfl) hs3 ?_
  refine hx_take (i := 23) (oi := _) (v := .bool true) rfl rfl hns (by kernel_rfl) (by kernel_rfl) hQ (by kernel_rfl) (fun W _ => eqs_int (s := 11) rfl (by kernel_rfl) (by kernel_rfl) W) hs3 ?_
  refine hx_take (i := 24) (oi := _) (v := .bool true) rfl rfl hns (by kernel_rfl) (by kernel_rfl) hQ (by kernel_rfl) (fun _ _ => by kernel_rfl) hs3 ?_
  refine hx_take (i := 25) (oi := _) (v := .bool true) rfl rfl hns (by kernel_rfl) (by kernel_rfl) hQ (by kernel_rfl) (fun _ _ => by kernel_rfl) hs3 ?_
  refine hx_take (i := 26) (oi := _) (v := .int .i64 3) rfl rfl hns (by kernel_rfl) (by kernel_rfl) hQ (by kernel_rfl) (fun _ _ => by kernel_rfl) hs3 ?_
  refine hx_take (i := 27) (oi := _) (v := .bool true) rfl rfl hns (by kernel_rfl) (by kernel_rfl) hQ (by kernel_rfl) (fun W _ => eqs_intE (s := 3) rfl (by kernel_rfl) (by kernel_rfl) W) hs3 ?_
  refine hx_take (i := 28) (oi := _) (v := .bool true) rfl rfl hns (by kernel_rfl) (by kernel_rfl) hQ (by kernel_rfl) (fun _ _ => by kernel_rfl) hs3 ?_
  refine hx_take (i := 29) (oi := _) (v := .bool true) rfl rfl hns (by kernel_rfl) (by kernel_rfl) hQ (by kernel_rfl) (fun _ _ => by kernel_rfl) hs3 ?_
  refine hx_take (i := 30) (oi := _) (v := .int .i64 13) rfl rfl hns (by kernel_rfl) (by kernel_rfl) hQ (by kernel_rfl) (fun _ _ => by kernel_rfl) hs3 ?_
  refine hx_take (i := 31) (oi := _) (v := .bool true) rfl rfl hns (by kernel_rfl) (by kernel_rfl) hQ (by kernel_rfl) (fun W _ => eqs_int (s := 13) rfl (by kernel_rfl) (by kernel_rfl) W) hs3 ?_
  refine hx_take (i := 32) (oi := _) (v := .bool true) rfl rfl hns (by kernel_rfl) (by kernel_rfl) hQ (by kernel_rfl) (fun _ _ => by kernel_rfl) hs3 ?_
  refine hx_take (i := 33) (oi := _) (v := .bool true) rfl rfl hns (by kernel_rfl) (by kernel_rfl) hQ (by kernel_rfl) (fun _ _ => by kernel_rfl) hs3 ?_
  refine hx_take (i := 34) (oi := _) (v := .int .i64 0) rfl rfl hns (by kernel_rfl) (by kernel_rfl) hQ (by kernel_rfl) (fun _ _ => by kernel_rfl) hs3 ?_
  refine hx_take (i := 35) (oi := _) (v := .bool true) rfl rfl hns (by kernel_rfl) (by kernel_rfl) hQ (by kernel_rfl) (fun W _ => eqs_intE (s := 0) rfl (by kernel_rfl) (by kernel_rfl) W) hs3 ?_
  refine hx_take (i := 36) (oi := _) (v := .bool true) rfl rfl hns (by kernel_rfl) (by kernel_rfl) hQ (by kernel_rfl) (fun _ _ => by kernel_rfl) hs3 ?_
  refine hx_take (i := 37) (oi := _) (v := .bool true) rfl rfl hns (by kernel_rfl) (by kernel_rfl) hQ (by kernel_rfl) (fun _ _ => by kernel_rfl) hs3 ?_
  refine hx_take (i := 38) (oi := _) (v := .agg #[.string ⟨#[97]⟩, .string ⟨#[111, 112, 101, 110]⟩, .int .i64 0, .bool false, .string ⟨#[]⟩, .bool false, .string ⟨#[]⟩, .bool false, .string ⟨#[]⟩, .bool false, .string ⟨#[]⟩]) rfl rfl hns (by kernel_rfl) (by kernel_rfl) hQ (by kernel_rfl) (fun W hW => ld_at rfl (by kernel_rfl) (by kernel_rfl) (by kernel_rfl) W (hGd.next hW)) hs3 ?_
  refine hx_call (i := 39) (oi := _) 26 #[.string ⟨#[97]⟩, .string ⟨#[111, 112, 101, 110]⟩, .slice none 0 0] rfl rfl (by kernel_rfl) (by kernel_rfl) (by kernel_rfl) ((kA_none [97] [111, 112, 101, 110] _)) ?_
  rintro e wx53 ⟨rfl, hb⟩
  have hs4 : Since w18 wx53 := hs3.trans hb
  clear hb
  refine ⟨_, rfl, hs4, ?_⟩
  refine hx_take (i := 40) (oi := _) (v := .bool true) rfl rfl hns (by kernel_rfl) (by kernel_rfl) hQ (by kernel_rfl) (fun W _ => eqs_atm [97] [111, 112, 101, 110] 0 false false false false [] [] [] [] rfl (by kernel_rfl) (by kernel_rfl) W) hs4 ?_
  refine hx_take (i := 41) (oi := _) (v := .bool true) rfl rfl hns (by kernel_rfl) (by kernel_rfl) hQ (by kernel_rfl) (fun _ _ => by kernel_rfl) hs4 ?_
  refine hx_take (i := 42) (oi := _) (v := .bool true) rfl rfl hns (by kernel_rfl) (by kernel_rfl) hQ (by kernel_rfl) (fun _ _ => by kernel_rfl) hs4 ?_
  refine wpAnyH_done (by kernel_rfl) ?_ _
  clear hns hQ
  simp only [List.set_cons_zero, List.set_cons_succ]
  go_wp2_with fail
  exact hgood.out _ (hS18.trans hs4)
end Go.Proofs.YtnfjjckbgnieeaaGreatDoor
