/- vouchsafekit.A at the names of law 10. The chapter's examples of law 10. -/
import Derived.Test.YtnfjjckbgnieeaaGreatDoorVParN
import Derived.Test.YtnfjjckbgnieeaaGreatDoorVEq
namespace Go.Proofs.YtnfjjckbgnieeaaGreatDoor
open Go.RowKit

set_option maxHeartbeats 400000 in
theorem kC_new (l : List UInt8) (w : World) :
    Calls Tryz.prog 48 #[.string ⟨l.toArray⟩] w fun e w' => e = .returned (.agg #[.bool false, .string ⟨l.toArray⟩]) ∧ w.alloc (.cells #[.bool false, .string ⟨l.toArray⟩] 41) = w' := by
  go_enter Tryz.func48, Tryz.ntmps48
  go_wp2
  exact bodyPost_ret (v := .agg #[.bool false, .string ⟨l.toArray⟩]) (by simp [results, Tryz.results48, go_sem]) rfl ⟨rfl, rfl⟩
set_option maxHeartbeats 2000000 in
set_option maxRecDepth 100000 in
theorem kA_X (s p : List UInt8) (b o c : Nat) (w : World) (q0 : w.cell? ⟨b, o, none⟩ = some (.string ⟨#[88]⟩)) :
    Calls Tryz.prog 26 #[.string ⟨s.toArray⟩, .string ⟨p.toArray⟩, .slice (some ⟨b, o, none⟩) 1 c] w fun e w' => e = .returned (.agg #[.string ⟨s.toArray⟩, .string ⟨p.toArray⟩, .int .i64 1, .bool true, .string ⟨#[88]⟩, .bool false, .string ⟨#[]⟩, .bool false, .string ⟨#[]⟩, .bool false, .string ⟨#[]⟩]) ∧ Since w w' := by
  have hblt : b < w.heap.size := World.block_lt_of_cell? w _ q0
  have hblt1 : b < w.heap.size + 1 := by omega
  have hblt2 : b < w.heap.size + 1 + 1 := by omega
  have hblt3 : b < w.heap.size + 1 + 1 + 1 := by omega
  go_enter Tryz.func26, Tryz.ntmps26
  go_wp2_with fail
  refine wp_loop_rounds 2 ?_
  rw [rounds_succ]
  go_wp2_with (go_at_call 48; refine (kC_new [88] _).mono ?_; rintro e w1 ⟨rfl, rfl⟩)
  rw [rounds_succ]
  go_wp2_with fail
  refine bodyPost_ret (v := .agg #[.string ⟨s.toArray⟩, .string ⟨p.toArray⟩, .int .i64 1, .bool true, .string ⟨#[88]⟩, .bool false, .string ⟨#[]⟩, .bool false, .string ⟨#[]⟩, .bool false, .string ⟨#[]⟩]) (by simp [results, Tryz.results26, go_sem]) rfl ⟨rfl, ?_⟩
  repeat (first | exact Since.refl _ | refine Since.alloc ?_ _ | refine Since.setCell ?_ (by simp) _)
end Go.Proofs.YtnfjjckbgnieeaaGreatDoor

namespace Go.Proofs.YtnfjjckbgnieeaaGreatDoor
open Go.RowKit

def ex10a : Txt := [97, 108, 105, 99, 101, 32, 115, 97, 121, 115, 32, 112, 40, 88, 41, 32, 105, 102, 32, 98, 111, 98, 32, 115, 97, 121, 115, 32, 113, 40, 88, 41, 46, 32, 97, 108, 105, 99, 101, 32, 115, 97, 121, 115, 32, 98, 111, 98, 32, 99, 97, 110, 115, 97, 121, 32, 112, 40, 88, 41, 46]
def ex10b : Txt := [113, 117, 111, 116, 97, 32, 49, 46, 32, 113, 117, 111, 116, 97, 32, 50, 46]
theorem ex10a_pol : policyL ex10a = ({ pol0 with ru := [((([97, 108, 105, 99, 101], [112], 1, (true, [88]), (false, []), (false, []), (false, [])) : Atm), [(([98, 111, 98], [113], 1, (true, [88]), (false, []), (false, []), (false, [])) : Atm)])], gr := [(([98, 111, 98] : List UInt8), (([97, 108, 105, 99, 101], [112], 1, (true, [88]), (false, []), (false, []), (false, [])) : Atm), [])] }, 0, 0) := by kernel_rfl
theorem ex10b_pol : policyL ex10b = (pol0, 9, 5) := by kernel_rfl
theorem own_at1 {W : World} {B : Nat} {e : TypeId} {K n : Nat} {v : Value} {xs : List Value} (h : W.ownsRow B e K v n xs) (hn : 0 < n) : ∃ b o c, v = .slice (some ⟨b, o, none⟩) n c ∧ n ≤ c ∧ At W b o xs.toArray := by
  obtain ⟨b, o, c, h1, h2, h3⟩ := (row_of_own h).some hn
  refine ⟨b, o, c, h1, h2, fun j u hu => ?_⟩
  have hj : j < xs.length := by have := (Array.getElem?_eq_some_iff.1 hu).1; simpa using this
  rw [h3 j hj]
  rw [List.getElem?_toArray, List.getElem?_eq_getElem hj] at hu
  exact hu
theorem at_sub {W : World} {g o : Nat} {cs : Array Value} (h : At W g o cs) (d n : Nat) : At W g (o + d) ((cs.toList.drop d).take n).toArray := by
  intro j u hu
  rw [List.getElem?_toArray, List.getElem?_take] at hu
  split at hu
  · rw [List.getElem?_drop, Array.getElem?_toList] at hu
    have := h (d + j) u hu
    rwa [← Nat.add_assoc] at this
  · cases hu
theorem at_sole {W : World} {b : Nat} {v : Value} {T : TypeId} (h : W.heap[b]? = some (.cells #[v] T (0, 0))) : W.cell? ⟨b, 0, none⟩ = some v := Cel.cell (cs := #[v]) h 0
section
attribute [local go_sem ↓] run_termEq' run_atomEq
attribute [local go_sem] eqA_self eqT_self
theorem eqs_atm {o : Oper} {x y : Operand} {ev : Operand → Value} (a_s a_p : List UInt8) (a_n : Int) (a_v0 a_v1 a_v2 a_v3 : Bool) (a_l0 a_l1 a_l2 a_l3 : List UInt8) (ho : o.op = .binOp .eql 44 x y 44) (hx : ev x = .agg #[.string ⟨a_s.toArray⟩, .string ⟨a_p.toArray⟩, .int .i64 a_n, .bool a_v0, .string ⟨a_l0.toArray⟩, .bool a_v1, .string ⟨a_l1.toArray⟩, .bool a_v2, .string ⟨a_l2.toArray⟩, .bool a_v3, .string ⟨a_l3.toArray⟩]) (hy : ev y = .agg #[.string ⟨a_s.toArray⟩, .string ⟨a_p.toArray⟩, .int .i64 a_n, .bool a_v0, .string ⟨a_l0.toArray⟩, .bool a_v1, .string ⟨a_l1.toArray⟩, .bool a_v2, .string ⟨a_l2.toArray⟩, .bool a_v3, .string ⟨a_l3.toArray⟩]) (W : World) :
    (execOp ev o).run Tryz.prog W = .ok (.value (.bool true)) W := by
  simp only [execOp, ho]
  go_simp
end
theorem one_fst {α : Type} {U : List (α × Value)} {x : α} (h : U.map Prod.fst = [x]) : ∃ u, U = [(x, u)] := by
  cases U with
  | nil => cases h
  | cons p q =>
    cases q with
    | nil =>
      obtain ⟨a, u⟩ := p
      simp at h
      exact ⟨u, by rw [h]⟩
    | cons _ _ => simp at h
set_option maxHeartbeats 8000000 in
set_option maxRecDepth 100000 in
theorem lives10_any (w : World) (hE : EnvT w) : Calls Tryz.prog 10 #[] w fun e w' => e = .returned (.bool true) ∧ Since w w' := by
  have HP1 := Lib.hid (policy_any ex10a (by decide) w hE)
  have HP2 := Lib.hid (fun W (h : Since w W) => policy_any ex10b (by decide) W (hE.next h))
  unfold PolPost at HP1 HP2
  rw [ex10a_pol] at HP1
  rw [ex10b_pol] at HP2
  obtain ⟨K, hK⟩ : ∃ K : Ending → World → Prop, Hid (K = fun e w' => e = .returned (.bool true) ∧ Since w w') := ⟨_, rfl⟩
  have hgood : Hid (∀ w', Since w w' → K (.returned (.bool true)) w') := fun w' h => by rw [hK.out]; exact ⟨rfl, h⟩
  rw [← hK.out]
  clear hE hK
  go_enter Tryz.func10, Tryz.ntmps10
  go_wp2_with fail
  refine HP1.out.mono ?_
  rintro e w2 ⟨c3, c4, c5, c6, c7, c8, c9, C, U, G, rfl, hO, hS2⟩
  obtain ⟨a3, e3, rfl⟩ := own_slice hO.pr
  obtain ⟨a4, e4, rfl⟩ := own_slice hO.pd
  obtain rfl : C = [] := List.map_eq_nil_iff.1 hO.eC
  obtain ⟨a5, e5, rfl⟩ := own_slice hO.cl.row
  obtain rfl := hO.qu
  obtain rfl := hO.bu
  obtain ⟨ru, rfl⟩ := one_fst hO.eU
  obtain ⟨gu, rfl⟩ := one_fst hO.eG
  obtain ⟨a8, e8, rfl⟩ := own_slice hO.ru.row
  obtain ⟨gb, go, e9, rfl, hge, hgat⟩ := own_at1 hO.gr.row (Nat.succ_pos _)
  have hG2 : At w2 gb (go + 0 * 13) #[.string ⟨#[98, 111, 98]⟩, .string ⟨#[97, 108, 105, 99, 101]⟩, .string ⟨#[112]⟩, .int .i64 1, .bool true, .string ⟨#[88]⟩, .bool false, .string ⟨#[]⟩, .bool false, .string ⟨#[]⟩, .bool false, .string ⟨#[]⟩, gu] := by rw [Nat.zero_mul, Nat.add_zero]; exact hgat
  clear hO hgat HP1
  have hS3 : Since w (w2.alloc (.cells #[.slice a3 pol0.pr.length e3, .slice a4 pol0.pd.length e4, .slice a5 0 e5, .int .i64 pol0.qu, .int .i64 pol0.bu, .slice a8 1 e8, .slice (some ⟨gb, go, none⟩) 1 e9] 29)) := hS2.alloc _
  have hB3 : Cel (w2.alloc (.cells #[.slice a3 pol0.pr.length e3, .slice a4 pol0.pd.length e4, .slice a5 0 e5, .int .i64 pol0.qu, .int .i64 pol0.bu, .slice a8 1 e8, .slice (some ⟨gb, go, none⟩) 1 e9] 29)) w2.heap.size #[.slice a3 pol0.pr.length e3, .slice a4 pol0.pd.length e4, .slice a5 0 e5, .int .i64 pol0.qu, .int .i64 pol0.bu, .slice a8 1 e8, .slice (some ⟨gb, go, none⟩) 1 e9] 29 := heap_alloc_new w2 _
  have hG3 := hG2.next ((Since.refl w2).alloc (.cells #[.slice a3 pol0.pr.length e3, .slice a4 pol0.pd.length e4, .slice a5 0 e5, .int .i64 pol0.qu, .int .i64 pol0.bu, .slice a8 1 e8, .slice (some ⟨gb, go, none⟩) 1 e9] 29))
  go_upto_region 2 with (fail)
  generalize w2.alloc (.cells #[.slice a3 pol0.pr.length e3, .slice a4 pol0.pd.length e4, .slice a5 0 e5, .int .i64 pol0.qu, .int .i64 pol0.bu, .slice a8 1 e8, .slice (some ⟨gb, go, none⟩) 1 e9] 29) = w3 at *
  obtain ⟨pb, hpb⟩ : ∃ x, Hid (x = w2.heap.size) := ⟨_, rfl⟩
  simp only [← hpb.out]
  rw [← hpb.out] at hB3
  clear hpb hG2
  go_wp2_with fail
  refine (HP2.out _ hS3).mono ?_
  rintro e w4 ⟨d3, d4, d5, d6, d7, d8, d9, C', U', G', rfl, hO, hS4⟩
  have hB4 := hB3.next hS4
  have hG4 := hG3.next hS4
  have hSa := hS3.trans hS4
  obtain ⟨x3, y3, rfl⟩ := own_slice hO.pr
  obtain ⟨x4, y4, rfl⟩ := own_slice hO.pd
  obtain ⟨x5, y5, rfl⟩ := own_slice hO.cl.row
  obtain rfl := hO.qu
  obtain rfl := hO.bu
  obtain ⟨x8, y8, rfl⟩ := own_slice hO.ru.row
  obtain ⟨x9, y9, rfl⟩ := own_slice hO.gr.row
  clear hO HP2 hB3 hG3 hS3 hS4 hS2
  have hS5 : Since w (w4.alloc (.cells #[.slice x3 pol0.pr.length y3, .slice x4 pol0.pd.length y4, .slice x5 C'.length y5, .int .i64 pol0.qu, .int .i64 pol0.bu, .slice x8 U'.length y8, .slice x9 G'.length y9] 29)) := hSa.alloc _
  have hB5 : At (w4.alloc (.cells #[.slice x3 pol0.pr.length y3, .slice x4 pol0.pd.length y4, .slice x5 C'.length y5, .int .i64 pol0.qu, .int .i64 pol0.bu, .slice x8 U'.length y8, .slice x9 G'.length y9] 29)) pb 0 #[.slice a3 pol0.pr.length e3, .slice a4 pol0.pd.length e4, .slice a5 0 e5, .int .i64 pol0.qu, .int .i64 pol0.bu, .slice a8 1 e8, .slice (some ⟨gb, go, none⟩) 1 e9] := (hB4.next ((Since.refl w4).alloc _)).at
  have hG5 := hG4.next ((Since.refl w4).alloc (.cells #[.slice x3 pol0.pr.length y3, .slice x4 pol0.pd.length y4, .slice x5 C'.length y5, .int .i64 pol0.qu, .int .i64 pol0.bu, .slice x8 U'.length y8, .slice x9 G'.length y9] 29))
  have hA5 : At (w4.alloc (.cells #[.slice x3 pol0.pr.length y3, .slice x4 pol0.pd.length y4, .slice x5 C'.length y5, .int .i64 pol0.qu, .int .i64 pol0.bu, .slice x8 U'.length y8, .slice x9 G'.length y9] 29)) gb (go + 0 * 13 + 1) #[.string ⟨#[97, 108, 105, 99, 101]⟩, .string ⟨#[112]⟩, .int .i64 1, .bool true, .string ⟨#[88]⟩, .bool false, .string ⟨#[]⟩, .bool false, .string ⟨#[]⟩, .bool false, .string ⟨#[]⟩] := at_sub hG5 1 11
  go_upto_region 3 with (fail)
  generalize w4.alloc (.cells #[.slice x3 pol0.pr.length y3, .slice x4 pol0.pd.length y4, .slice x5 C'.length y5, .int .i64 pol0.qu, .int .i64 pol0.bu, .slice x8 U'.length y8, .slice x9 G'.length y9] 29) = w5 at *
  clear hB4 hG4 hSa
  have hs0 : Since w5 w5.drew := (Since.refl _).drew
  refine hx_begin (S := fun W => Since w5 W) (by kernel_rfl) hs0 (by kernel_rfl) (fun _ _ _ _ _ h => h) (fun hns hQ => ?_)
  refine hx_take (i := 0) (oi := _) (v := .int .i64 0) rfl rfl hns (by kernel_rfl) (by kernel_rfl) hQ (by kernel_rfl) (fun _ _ => by kernel_rfl) hs0 ?_
  refine hx_take (i := 1) (oi := _) (v := .bool true) rfl rfl hns (by kernel_rfl) (by kernel_rfl) hQ (by kernel_rfl) (fun W _ => eqs_intE (s := 0) rfl (by kernel_rfl) (by kernel_rfl) W) hs0 ?_
  refine hx_take (i := 2) (oi := _) (v := .bool true) rfl rfl hns (by kernel_rfl) (by kernel_rfl) hQ (by kernel_rfl) (fun _ _ => by kernel_rfl) hs0 ?_
  refine hx_take (i := 3) (oi := _) (v := .pointer (some ⟨pb, 5, none⟩)) rfl rfl hns (by kernel_rfl) (by kernel_rfl) hQ (by kernel_rfl) (fun _ _ => by kernel_rfl) hs0 ?_
  refine hx_take (i := 4) (oi := _) (v := .slice a8 1 e8) rfl rfl hns (by kernel_rfl) (by kernel_rfl) hQ (by kernel_rfl) (fun W hW => ld_one rfl (by kernel_rfl) (by kernel_rfl) W (hB5.next hW 5 _ rfl)) hs0 ?_
  refine hx_take (i := 5) (oi := _) (v := .int .i64 1) rfl rfl hns (by kernel_rfl) (by kernel_rfl) hQ (by kernel_rfl) (fun _ _ => by kernel_rfl) hs0 ?_
  refine hx_take (i := 6) (oi := _) (v := .bool true) rfl rfl hns (by kernel_rfl) (by kernel_rfl) hQ (by kernel_rfl) (fun W _ => eqs_int (s := 1) rfl (by kernel_rfl) (by kernel_rfl) W) hs0 ?_
  refine hx_take (i := 7) (oi := _) (v := .bool true) rfl rfl hns (by kernel_rfl) (by kernel_rfl) hQ (by kernel_rfl) (fun _ _ => by kernel_rfl) hs0 ?_
  refine hx_take (i := 8) (oi := _) (v := .bool true) rfl rfl hns (by kernel_rfl) (by kernel_rfl) hQ (by kernel_rfl) (fun _ _ => by kernel_rfl) hs0 ?_
  refine hx_take (i := 9) (oi := _) (v := .pointer (some ⟨pb, 6, none⟩)) rfl rfl hns (by kernel_rfl) (by kernel_rfl) hQ (by kernel_rfl) (fun _ _ => by kernel_rfl) hs0 ?_
  refine hx_take (i := 10) (oi := _) (v := .slice (some ⟨gb, go, none⟩) 1 e9) rfl rfl hns (by kernel_rfl) (by kernel_rfl) hQ (by kernel_rfl) (fun W hW => ld_one rfl (by kernel_rfl) (by kernel_rfl) W (hB5.next hW 6 _ rfl)) hs0 ?_
  refine hx_take (i := 11) (oi := _) (v := .int .i64 1) rfl rfl hns (by kernel_rfl) (by kernel_rfl) hQ (by kernel_rfl) (fun _ _ => by kernel_rfl) hs0 ?_
  refine hx_take (i := 12) (oi := _) (v := .bool true) rfl rfl hns (by kernel_rfl) (by kernel_rfl) hQ (by kernel_rfl) (fun W _ => eqs_int (s := 1) rfl (by kernel_rfl) (by kernel_rfl) W) hs0 ?_
  refine hx_take (i := 13) (oi := _) (v := .bool true) rfl rfl hns (by kernel_rfl) (by kernel_rfl) hQ (by kernel_rfl) (fun _ _ => by kernel_rfl) hs0 ?_
  refine hx_take (i := 14) (oi := _) (v := .bool true) rfl rfl hns (by kernel_rfl) (by kernel_rfl) hQ (by kernel_rfl) (fun _ _ => by kernel_rfl) hs0 ?_
  refine hx_take (i := 15) (oi := _) (v := .pointer (some ⟨pb, 6, none⟩)) rfl rfl hns (by kernel_rfl) (by kernel_rfl) hQ (by kernel_rfl) (fun _ _ => by kernel_rfl) hs0 ?_
  refine hx_take (i := 16) (oi := _) (v := .slice (some ⟨gb, go, none⟩) 1 e9) rfl rfl hns (by kernel_rfl) (by kernel_rfl) hQ (by kernel_rfl) (fun W hW => ld_one rfl (by kernel_rfl) (by kernel_rfl) W (hB5.next hW 6 _ rfl)) hs0 ?_
  refine hx_take (i := 17) (oi := _) (v := .pointer (some ⟨gb, go + 0 * 13, none⟩)) rfl rfl hns (by kernel_rfl) (by kernel_rfl) hQ (by kernel_rfl) (fun W _ => ix_sl (n := 1) (c := e9) (K := 13) rfl (by kernel_rfl) (by kernel_rfl) (by kernel_rfl) rfl (by omega) W) hs0 ?_
  refine hx_take (i := 18) (oi := _) (v := .pointer (some ⟨gb, go + 0 * 13, none⟩)) rfl rfl hns (by kernel_rfl) (by kernel_rfl) hQ (by kernel_rfl) (fun _ _ => by kernel_rfl) hs0 ?_
  refine hx_take (i := 19) (oi := _) (v := .string ⟨#[98, 111, 98]⟩) rfl rfl hns (by kernel_rfl) (by kernel_rfl) hQ (by kernel_rfl) (fun W hW => ld_one rfl (by kernel_rfl) (by kernel_rfl) W (hG5.next hW 0 _ rfl)) hs0 ?_
  refine hx_take (i := 20) (oi := _) (v := .bool true) rfl rfl hns (by kernel_rfl) (by kernel_rfl) hQ (by kernel_rfl) (fun W _ => eqs_txt (s := [98, 111, 98]) rfl (by kernel_rfl) (by kernel_rfl) W) hs0 ?_
  refine hx_take (i := 21) (oi := _) (v := .bool true) rfl rfl hns (by kernel_rfl) (by kernel_rfl) hQ (by kernel_rfl) (fun _ _ => by kernel_rfl) hs0 ?_
  refine hx_take (i := 22) (oi := _) (v := .bool true) rfl rfl hns (by kernel_rfl) (by kernel_rfl) hQ (by kernel_rfl) (fun _ _ => by kernel_rfl) hs0 ?_
  refine hx_take (i := 23) (oi := _) (v := .pointer (some ⟨pb, 6, none⟩)) rfl rfl hns (by kernel_rfl) (by kernel_rfl) hQ (by kernel_rfl) (fun _ _ => by kernel_rfl) hs0 ?_
  refine hx_take (i := 24) (oi := _) (v := .slice (some ⟨gb, go, none⟩) 1 e9) rfl rfl hns (by kernel_rfl) (by kernel_rfl) hQ (by kernel_rfl) (fun W hW => ld_one rfl (by kernel_rfl) (by kernel_rfl) W (hB5.next hW 6 _ rfl)) hs0 ?_
  refine hx_take (i := 25) (oi := _) (v := .pointer (some ⟨gb, go + 0 * 13, none⟩)) rfl rfl hns (by kernel_rfl) (by kernel_rfl) hQ (by kernel_rfl) (fun W _ => ix_sl (n := 1) (c := e9) (K := 13) rfl (by kernel_rfl) (by kernel_rfl) (by kernel_rfl) rfl (by omega) W) hs0 ?_
  refine hx_take (i := 26) (oi := _) (v := .pointer (some ⟨gb, go + 0 * 13 + 1, none⟩)) rfl rfl hns (by kernel_rfl) (by kernel_rfl) hQ (by kernel_rfl) (fun _ _ => by kernel_rfl) hs0 ?_
  refine hx_take (i := 27) (oi := _) (v := .agg #[.string ⟨#[97, 108, 105, 99, 101]⟩, .string ⟨#[112]⟩, .int .i64 1, .bool true, .string ⟨#[88]⟩, .bool false, .string ⟨#[]⟩, .bool false, .string ⟨#[]⟩, .bool false, .string ⟨#[]⟩]) rfl rfl hns (by kernel_rfl) (by kernel_rfl) hQ (by kernel_rfl) (fun W hW => ld_at rfl (by kernel_rfl) (by kernel_rfl) (by kernel_rfl) W (hA5.next hW)) hs0 ?_
  have hs1 : Since w5 (w5.drew.alloc (.cells #[.string ⟨#[88]⟩] 9)) := hs0.alloc _
  refine hx_make (i := 28) (oi := _) (.slice (some ⟨w5.drew.heap.size, 0, none⟩) 1 1) (w5.drew.alloc (.cells #[.string ⟨#[88]⟩] 9)) rfl rfl (by kernel_rfl) (by kernel_rfl) (by kernel_rfl) hs1 ?_
  refine hx_call (i := 29) (oi := _) 26 #[.string ⟨#[97, 108, 105, 99, 101]⟩, .string ⟨#[112]⟩, .slice (some ⟨w5.drew.heap.size, 0, none⟩) 1 1] rfl rfl (by kernel_rfl) (by kernel_rfl) (by kernel_rfl) ((kA_X [97, 108, 105, 99, 101] [112] w5.drew.heap.size 0 1 (w5.drew.alloc (.cells #[.string ⟨#[88]⟩] 9)) (at_sole (heap_alloc_new _ _)))) ?_
  rintro e wx51 ⟨rfl, hb⟩
  have hs2 : Since w5 wx51 := hs1.trans hb
  clear hb
  refine ⟨_, rfl, hs2, ?_⟩
  refine hx_take (i := 30) (oi := _) (v := .bool true) rfl rfl hns (by kernel_rfl) (by kernel_rfl) hQ (by kernel_rfl) (fun W _ => eqs_atm [97, 108, 105, 99, 101] [112] 1 true false false false [88] [] [] [] rfl (by kernel_rfl) (by kernel_rfl) W) hs2 ?_
  refine hx_take (i := 31) (oi := _) (v := .bool true) rfl rfl hns (by kernel_rfl) (by kernel_rfl) hQ (by kernel_rfl) (fun _ _ => by kernel_rfl) hs2 ?_
  refine hx_take (i := 32) (oi := _) (v := .bool true) rfl rfl hns (by kernel_rfl) (by kernel_rfl) hQ (by kernel_rfl) (fun _ _ => by kernel_rfl) hs2 ?_
  refine hx_take (i := 33) (oi := _) (v := .int .i64 5) rfl rfl hns (by kernel_rfl) (by kernel_rfl) hQ (by kernel_rfl) (fun _ _ => by kernel_rfl) hs2 ?_
  refine hx_take (i := 34) (oi := _) (v := .bool true) rfl rfl hns (by kernel_rfl) (by kernel_rfl) hQ (by kernel_rfl) (fun W _ => eqs_intE (s := 5) rfl (by kernel_rfl) (by kernel_rfl) W) hs2 ?_
  refine hx_take (i := 35) (oi := _) (v := .bool true) rfl rfl hns (by kernel_rfl) (by kernel_rfl) hQ (by kernel_rfl) (fun _ _ => by kernel_rfl) hs2 ?_
  refine hx_take (i := 36) (oi := _) (v := .bool true) rfl rfl hns (by kernel_rfl) (by kernel_rfl) hQ (by kernel_rfl) (fun _ _ => by kernel_rfl) hs2 ?_
  refine hx_take (i := 37) (oi := _) (v := .int .i64 9) rfl rfl hns (by kernel_rfl) (by kernel_rfl) hQ (by kernel_rfl) (fun _ _ => by kernel_rfl) hs2 ?_
  refine hx_take (i := 38) (oi := _) (v := .bool true) rfl rfl hns (by kernel_rfl) (by kernel_rfl) hQ (by kernel_rfl) (fun W _ => eqs_int (s := 9) rfl (by kernel_rfl) (by kernel_rfl) W) hs2 ?_
  refine hx_take (i := 39) (oi := _) (v := .bool true) rfl rfl hns (by kernel_rfl) (by kernel_rfl) hQ (by kernel_rfl) (fun _ _ => by kernel_rfl) hs2 ?_
  refine hx_take (i := 40) (oi := _) (v := .bool true) rfl rfl hns (by kernel_rfl) (by kernel_rfl) hQ (by kernel_rfl) (fun _ _ => by kernel_rfl) hs2 ?_
  refine wpAnyH_done (by kernel_rfl) ?_ _
  clear hns hQ
  simp only [List.set_cons_zero, List.set_cons_succ]
  go_wp2_with fail
  exact hgood.out _ (hS5.trans hs2)
end Go.Proofs.YtnfjjckbgnieeaaGreatDoor
