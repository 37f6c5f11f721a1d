/- The chapter's example; lives of layer 22. -/
import Derived.Test.YtdlnmkdbjgbimaaGreatDoorCkR
import Derived.Test.YtdlnmkdbjgbimaaGreatDoorCkO
namespace Go.Proofs.YtdlnmkdbjgbimaaGreatDoor
open Go.RowKit

theorem of_any (s p v : List UInt8) (w : World) :
    Calls Tryz.prog 41 #[.string ⟨s.toArray⟩, .string ⟨p.toArray⟩, .string ⟨v.toArray⟩] w fun e w' => e = .returned (.agg #[.string ⟨s.toArray⟩, .string ⟨p.toArray⟩, .int .i64 1, .bool true, .string ⟨v.toArray⟩, .bool false, .string ⟨#[]⟩, .bool false, .string ⟨#[]⟩, .bool false, .string ⟨#[]⟩]) ∧ Since w w' := by
  go_enter Tryz.func41, Tryz.ntmps41
  go_wp2
  refine bodyPost_ret (v := .agg #[.string ⟨s.toArray⟩, .string ⟨p.toArray⟩, .int .i64 1, .bool true, .string ⟨v.toArray⟩, .bool false, .string ⟨#[]⟩, .bool false, .string ⟨#[]⟩, .bool false, .string ⟨#[]⟩]) (by simp [results, Tryz.results41, go_sem]) rfl ⟨rfl, ?_⟩
  exact ((Since.refl _).alloc _).alloc _
theorem at_any (s p v : List UInt8) (w : World) :
    Calls Tryz.prog 28 #[.string ⟨s.toArray⟩, .string ⟨p.toArray⟩, .string ⟨v.toArray⟩] w fun e w' => e = .returned (.agg #[.string ⟨s.toArray⟩, .string ⟨p.toArray⟩, .int .i64 1, .bool false, .string ⟨v.toArray⟩, .bool false, .string ⟨#[]⟩, .bool false, .string ⟨#[]⟩, .bool false, .string ⟨#[]⟩]) ∧ Since w w' := by
  go_enter Tryz.func28, Tryz.ntmps28
  go_wp2
  refine bodyPost_ret (v := .agg #[.string ⟨s.toArray⟩, .string ⟨p.toArray⟩, .int .i64 1, .bool false, .string ⟨v.toArray⟩, .bool false, .string ⟨#[]⟩, .bool false, .string ⟨#[]⟩, .bool false, .string ⟨#[]⟩]) (by simp [results, Tryz.results28, go_sem]) rfl ⟨rfl, ?_⟩
  exact ((Since.refl _).alloc _).alloc _
def tinyC : List Cls := [((([97], [112], 1, (true, [88]), (false, []), (false, []), (false, [])) : Atm), [(([98], [113], 1, (true, [88]), (false, []), (false, []), (false, [])) : Atm)])]
def tinyF : List Atm := [(([98], [113], 1, (false, [99]), (false, []), (false, []), (false, [])) : Atm)]
def tinyG : Atm := (([97], [112], 1, (false, [99]), (false, []), (false, []), (false, [])) : Atm)
def tinyS : List Stp := [((([98], [113], 1, (false, [99]), (false, []), (false, []), (false, [])) : Atm), -1, []), ((([97], [112], 1, (false, [99]), (false, []), (false, []), (false, [])) : Atm), 0, [0])]
theorem atat_lit {W : World} {g o : Nat} {cs : Array Value} {x : Atm} (h : At W g o cs) (d : Nat) (hd : (cs.toList.drop d).take 11 = (atmC x).toList) : AtAt W g (o + d) x := at_sub h d 11 hd
theorem tiny_rows {W : World} {b1 b2 b3 : Nat} (k1 : At W b1 0 #[.string ⟨#[98]⟩, .string ⟨#[113]⟩, .int .i64 1, .bool true, .string ⟨#[88]⟩, .bool false, .string ⟨#[]⟩, .bool false, .string ⟨#[]⟩, .bool false, .string ⟨#[]⟩]) (k2 : At W b2 0 #[.string ⟨#[97]⟩, .string ⟨#[112]⟩, .int .i64 1, .bool true, .string ⟨#[88]⟩, .bool false, .string ⟨#[]⟩, .bool false, .string ⟨#[]⟩, .bool false, .string ⟨#[]⟩, .slice (some ⟨b1, 0, none⟩) 1 1]) (k3 : At W b3 0 #[.string ⟨#[98]⟩, .string ⟨#[113]⟩, .int .i64 1, .bool false, .string ⟨#[99]⟩, .bool false, .string ⟨#[]⟩, .bool false, .string ⟨#[]⟩, .bool false, .string ⟨#[]⟩]) : RRow W (.slice (some ⟨b2, 0, none⟩) tinyC.length 1) tinyC ∧ ARow W (.slice (some ⟨b3, 0, none⟩) tinyF.length 1) tinyF := by
  refine ⟨⟨_, _, rfl, Nat.le_refl _, fun _ => ⟨b2, 0, rfl, fun k hk => ?_⟩⟩, ⟨_, _, rfl, Nat.le_refl _, fun _ => ⟨b3, 0, rfl, fun k hk => ?_⟩⟩⟩
  · obtain rfl : k = 0 := by have : tinyC.length = 1 := rfl; omega
    refine ⟨atat_lit k2 0 rfl, _, k2 11 _ rfl, ⟨_, _, rfl, Nat.le_refl _, fun _ => ⟨b1, 0, rfl, fun k hk => ?_⟩⟩⟩
    obtain rfl : k = 0 := by
      have h : (tinyC[0]).2.length = 1 := rfl
      omega
    exact atat_lit k1 0 rfl
  · obtain rfl : k = 0 := by have : tinyF.length = 1 := rfl; omega
    exact atat_lit k3 0 rfl
set_option maxHeartbeats 4000000 in
set_option maxRecDepth 100000 in
theorem tiny_any (w : World) : Calls Tryz.prog 27 #[] w fun e w' => ∃ b1 b2 b3, e = .returned (.tuple #[.slice (some ⟨b2, 0, none⟩) 1 1, .slice (some ⟨b3, 0, none⟩) 1 1]) ∧ At w' b1 0 #[.string ⟨#[98]⟩, .string ⟨#[113]⟩, .int .i64 1, .bool true, .string ⟨#[88]⟩, .bool false, .string ⟨#[]⟩, .bool false, .string ⟨#[]⟩, .bool false, .string ⟨#[]⟩] ∧ At w' b2 0 #[.string ⟨#[97]⟩, .string ⟨#[112]⟩, .int .i64 1, .bool true, .string ⟨#[88]⟩, .bool false, .string ⟨#[]⟩, .bool false, .string ⟨#[]⟩, .bool false, .string ⟨#[]⟩, .slice (some ⟨b1, 0, none⟩) 1 1] ∧ At w' b3 0 #[.string ⟨#[98]⟩, .string ⟨#[113]⟩, .int .i64 1, .bool false, .string ⟨#[99]⟩, .bool false, .string ⟨#[]⟩, .bool false, .string ⟨#[]⟩, .bool false, .string ⟨#[]⟩] ∧ w.heap.size ≤ b1 ∧ w.heap.size ≤ b2 ∧ w.heap.size ≤ b3 ∧ Since w w' := by
  have H1 : Hid (∀ W, Calls Tryz.prog 41 #[.string ⟨#[97]⟩, .string ⟨#[112]⟩, .string ⟨#[88]⟩] W fun e w' => e = .returned (.agg #[.string ⟨#[97]⟩, .string ⟨#[112]⟩, .int .i64 1, .bool true, .string ⟨#[88]⟩, .bool false, .string ⟨#[]⟩, .bool false, .string ⟨#[]⟩, .bool false, .string ⟨#[]⟩]) ∧ Since W w') := fun W => of_any [97] [112] [88] W
  have H2 : Hid (∀ W, Calls Tryz.prog 41 #[.string ⟨#[98]⟩, .string ⟨#[113]⟩, .string ⟨#[88]⟩] W fun e w' => e = .returned (.agg #[.string ⟨#[98]⟩, .string ⟨#[113]⟩, .int .i64 1, .bool true, .string ⟨#[88]⟩, .bool false, .string ⟨#[]⟩, .bool false, .string ⟨#[]⟩, .bool false, .string ⟨#[]⟩]) ∧ Since W w') := fun W => of_any [98] [113] [88] W
  have H3 : Hid (∀ W, Calls Tryz.prog 28 #[.string ⟨#[98]⟩, .string ⟨#[113]⟩, .string ⟨#[99]⟩] W fun e w' => e = .returned (.agg #[.string ⟨#[98]⟩, .string ⟨#[113]⟩, .int .i64 1, .bool false, .string ⟨#[99]⟩, .bool false, .string ⟨#[]⟩, .bool false, .string ⟨#[]⟩, .bool false, .string ⟨#[]⟩]) ∧ Since W w') := fun W => at_any [98] [113] [99] W
  go_enter Tryz.func27, Tryz.ntmps27
  go_wp2_with fail
  refine (H1.out _).mono ?_
  rintro e w1 ⟨rfl, hb1⟩
  go_wp2_with fail
  refine (H2.out _).mono ?_
  rintro e w2 ⟨rfl, hb2⟩
  go_wp2_with fail
  refine (H3.out _).mono ?_
  rintro e w5 ⟨rfl, hb5⟩
  go_wp2_with fail
  have hS3 : Since w2 ((w2.alloc (.cells #[.string ⟨#[98]⟩, .string ⟨#[113]⟩, .int .i64 1, .bool true, .string ⟨#[88]⟩, .bool false, .string ⟨#[]⟩, .bool false, .string ⟨#[]⟩, .bool false, .string ⟨#[]⟩] 29)).alloc (.cells #[.string ⟨#[97]⟩, .string ⟨#[112]⟩, .int .i64 1, .bool true, .string ⟨#[88]⟩, .bool false, .string ⟨#[]⟩, .bool false, .string ⟨#[]⟩, .bool false, .string ⟨#[]⟩, .slice (some ⟨w2.heap.size, 0, none⟩) 1 1] 47)) := ((Since.refl _).alloc _).alloc _
  have g1 : Cel (w2.alloc (.cells #[.string ⟨#[98]⟩, .string ⟨#[113]⟩, .int .i64 1, .bool true, .string ⟨#[88]⟩, .bool false, .string ⟨#[]⟩, .bool false, .string ⟨#[]⟩, .bool false, .string ⟨#[]⟩] 29)) w2.heap.size #[.string ⟨#[98]⟩, .string ⟨#[113]⟩, .int .i64 1, .bool true, .string ⟨#[88]⟩, .bool false, .string ⟨#[]⟩, .bool false, .string ⟨#[]⟩, .bool false, .string ⟨#[]⟩] 29 := heap_alloc_new w2 _
  have g2 : Cel ((w2.alloc (.cells #[.string ⟨#[98]⟩, .string ⟨#[113]⟩, .int .i64 1, .bool true, .string ⟨#[88]⟩, .bool false, .string ⟨#[]⟩, .bool false, .string ⟨#[]⟩, .bool false, .string ⟨#[]⟩] 29)).alloc (.cells #[.string ⟨#[97]⟩, .string ⟨#[112]⟩, .int .i64 1, .bool true, .string ⟨#[88]⟩, .bool false, .string ⟨#[]⟩, .bool false, .string ⟨#[]⟩, .bool false, .string ⟨#[]⟩, .slice (some ⟨w2.heap.size, 0, none⟩) 1 1] 47)) (w2.heap.size + 1) #[.string ⟨#[97]⟩, .string ⟨#[112]⟩, .int .i64 1, .bool true, .string ⟨#[88]⟩, .bool false, .string ⟨#[]⟩, .bool false, .string ⟨#[]⟩, .bool false, .string ⟨#[]⟩, .slice (some ⟨w2.heap.size, 0, none⟩) 1 1] 47 := by
    have h : Cel ((w2.alloc (.cells #[.string ⟨#[98]⟩, .string ⟨#[113]⟩, .int .i64 1, .bool true, .string ⟨#[88]⟩, .bool false, .string ⟨#[]⟩, .bool false, .string ⟨#[]⟩, .bool false, .string ⟨#[]⟩] 29)).alloc (.cells #[.string ⟨#[97]⟩, .string ⟨#[112]⟩, .int .i64 1, .bool true, .string ⟨#[88]⟩, .bool false, .string ⟨#[]⟩, .bool false, .string ⟨#[]⟩, .bool false, .string ⟨#[]⟩, .slice (some ⟨w2.heap.size, 0, none⟩) 1 1] 47)) _ #[.string ⟨#[97]⟩, .string ⟨#[112]⟩, .int .i64 1, .bool true, .string ⟨#[88]⟩, .bool false, .string ⟨#[]⟩, .bool false, .string ⟨#[]⟩, .bool false, .string ⟨#[]⟩, .slice (some ⟨w2.heap.size, 0, none⟩) 1 1] 47 := heap_alloc_new _ _
    rw [World.size_alloc] at h
    exact h
  have g3 : Cel (w5.alloc (.cells #[.string ⟨#[98]⟩, .string ⟨#[113]⟩, .int .i64 1, .bool false, .string ⟨#[99]⟩, .bool false, .string ⟨#[]⟩, .bool false, .string ⟨#[]⟩, .bool false, .string ⟨#[]⟩] 29)) w5.heap.size #[.string ⟨#[98]⟩, .string ⟨#[113]⟩, .int .i64 1, .bool false, .string ⟨#[99]⟩, .bool false, .string ⟨#[]⟩, .bool false, .string ⟨#[]⟩, .bool false, .string ⟨#[]⟩] 29 := heap_alloc_new w5 _
  have hS5 : Since w5 (w5.alloc (.cells #[.string ⟨#[98]⟩, .string ⟨#[113]⟩, .int .i64 1, .bool false, .string ⟨#[99]⟩, .bool false, .string ⟨#[]⟩, .bool false, .string ⟨#[]⟩, .bool false, .string ⟨#[]⟩] 29)) := (Since.refl _).alloc _
  have k1 := (((g1.next ((Since.refl _).alloc _)).next hb5).next hS5).at
  have k2 := ((g2.next hb5).next hS5).at
  have k3 := g3.at
  go_ret2
  have z1 : w.heap.size ≤ w2.heap.size := (hb1.trans hb2).size
  have z5 : w.heap.size ≤ w5.heap.size := (((hb1.trans hb2).trans hS3).trans hb5).size
  exact ⟨_, _, _, rfl, k1, k2, k3, z1, by omega, z5, (((hb1.trans hb2).trans hS3).trans hb5).trans hS5⟩
theorem small_res (tmps : Array Value) (g : Nat) (v0 v1 v2 : Value) (D : World) (h : At D g 0 #[.string ⟨#[97]⟩, .string ⟨#[112]⟩, .int .i64 1, .bool false, .string ⟨#[99]⟩, .bool false, .string ⟨#[]⟩, .bool false, .string ⟨#[]⟩, .bool false, .string ⟨#[]⟩]) (t0 : tmps[0]?.getD undef = v0) (t1 : tmps[1]?.getD undef = v1) (t2 : tmps[2]?.getD undef = v2) (t3 : tmps[3]?.getD undef = .pointer (some ⟨g, 0, none⟩)) :
    (results Tryz.f18 tmps).run Tryz.prog D = .ok (.tuple #[v0, v1, v2, .agg #[.string ⟨#[97]⟩, .string ⟨#[112]⟩, .int .i64 1, .bool false, .string ⟨#[99]⟩, .bool false, .string ⟨#[]⟩, .bool false, .string ⟨#[]⟩, .bool false, .string ⟨#[]⟩]]) D := by
  have s0 : D.cell? ⟨g, 0, none⟩ = some (.string ⟨#[97]⟩) := h 0 _ rfl
  have s1 : D.cell? ⟨g, 1, none⟩ = some (.string ⟨#[112]⟩) := h 1 _ rfl
  have s2 : D.cell? ⟨g, 2, none⟩ = some (.int .i64 1) := h 2 _ rfl
  have s3 : D.cell? ⟨g, 3, none⟩ = some (.bool false) := h 3 _ rfl
  have s4 : D.cell? ⟨g, 4, none⟩ = some (.string ⟨#[99]⟩) := h 4 _ rfl
  have s5 : D.cell? ⟨g, 5, none⟩ = some (.bool false) := h 5 _ rfl
  have s6 : D.cell? ⟨g, 6, none⟩ = some (.string ⟨#[]⟩) := h 6 _ rfl
  have s7 : D.cell? ⟨g, 7, none⟩ = some (.bool false) := h 7 _ rfl
  have s8 : D.cell? ⟨g, 8, none⟩ = some (.string ⟨#[]⟩) := h 8 _ rfl
  have s9 : D.cell? ⟨g, 9, none⟩ = some (.bool false) := h 9 _ rfl
  have s10 : D.cell? ⟨g, 10, none⟩ = some (.string ⟨#[]⟩) := h 10 _ rfl
  simp [results, Tryz.results18, go_sem, t0, t1, t2, t3, s0, s1, s2, s3, s4, s5, s6, s7, s8, s9, s10]
set_option maxHeartbeats 4000000 in
set_option maxRecDepth 100000 in
theorem small22_any (w : World) : Calls Tryz.prog 18 #[] w fun e w' => ∃ va vf vs, e = .returned (.tuple #[.slice va tinyC.length 1, .slice vf tinyF.length 1, .slice vs tinyS.length 2, .agg #[.string ⟨#[97]⟩, .string ⟨#[112]⟩, .int .i64 1, .bool false, .string ⟨#[99]⟩, .bool false, .string ⟨#[]⟩, .bool false, .string ⟨#[]⟩, .bool false, .string ⟨#[]⟩]]) ∧ RRow w' (.slice va tinyC.length 1) tinyC ∧ ARow w' (.slice vf tinyF.length 1) tinyF ∧ SRow w' (.slice vs tinyS.length 2) tinyS ∧ Since w w' := by
  have H3 : Hid (∀ W, Calls Tryz.prog 28 #[.string ⟨#[97]⟩, .string ⟨#[112]⟩, .string ⟨#[99]⟩] W fun e w' => e = .returned (.agg #[.string ⟨#[97]⟩, .string ⟨#[112]⟩, .int .i64 1, .bool false, .string ⟨#[99]⟩, .bool false, .string ⟨#[]⟩, .bool false, .string ⟨#[]⟩, .bool false, .string ⟨#[]⟩]) ∧ Since W w') := fun W => at_any [97] [112] [99] W
  have g3 : Cel (w.alloc (.cells #[.string ⟨#[]⟩, .string ⟨#[]⟩, .int .i64 0, .bool false, .string ⟨#[]⟩, .bool false, .string ⟨#[]⟩, .bool false, .string ⟨#[]⟩, .bool false, .string ⟨#[]⟩] 29)) w.heap.size #[.string ⟨#[]⟩, .string ⟨#[]⟩, .int .i64 0, .bool false, .string ⟨#[]⟩, .bool false, .string ⟨#[]⟩, .bool false, .string ⟨#[]⟩, .bool false, .string ⟨#[]⟩] 29 := heap_alloc_new w _
  have hS : Since w (w.alloc (.cells #[.string ⟨#[]⟩, .string ⟨#[]⟩, .int .i64 0, .bool false, .string ⟨#[]⟩, .bool false, .string ⟨#[]⟩, .bool false, .string ⟨#[]⟩, .bool false, .string ⟨#[]⟩] 29)) := (Since.refl w).alloc _
  go_enter Tryz.func18, Tryz.ntmps18
  go_upto_region 1 with (fail)
  generalize hw1 : w.alloc (.cells #[.string ⟨#[]⟩, .string ⟨#[]⟩, .int .i64 0, .bool false, .string ⟨#[]⟩, .bool false, .string ⟨#[]⟩, .bool false, .string ⟨#[]⟩, .bool false, .string ⟨#[]⟩] 29) = w1 at *
  clear hw1
  go_wp2_with fail
  refine (tiny_any _).mono ?_
  rintro e w2 ⟨b1, b2, bf, rfl, k1, k2, hf, z1, z2, z3, hb⟩
  have hw1s : w.heap.size < w1.heap.size := g3.lt
  replace g3 := g3.next hb
  replace hS := hS.trans hb
  clear hb
  go_wp2_with fail
  refine (H3.out _).mono ?_
  rintro e w3 ⟨rfl, hb⟩
  have hb4 : Since w2 (w3.alloc (.cells #[.string ⟨#[97]⟩, .string ⟨#[112]⟩, .int .i64 1, .bool false, .string ⟨#[99]⟩, .bool false, .string ⟨#[]⟩, .bool false, .string ⟨#[]⟩, .bool false, .string ⟨#[]⟩] 29)) := hb.alloc _
  have h6 : At (w3.alloc (.cells #[.string ⟨#[97]⟩, .string ⟨#[112]⟩, .int .i64 1, .bool false, .string ⟨#[99]⟩, .bool false, .string ⟨#[]⟩, .bool false, .string ⟨#[]⟩, .bool false, .string ⟨#[]⟩] 29)) w3.heap.size 0 #[.string ⟨#[97]⟩, .string ⟨#[112]⟩, .int .i64 1, .bool false, .string ⟨#[99]⟩, .bool false, .string ⟨#[]⟩, .bool false, .string ⟨#[]⟩, .bool false, .string ⟨#[]⟩] := Cel.at (heap_alloc_new w3 _)
  have hlt : w.heap.size < w3.heap.size := (g3.next hb).lt
  replace g3 := g3.next hb4
  replace hS := hS.trans hb4
  replace hf := hf.next hb4
  replace k1 := k1.next hb4
  replace k2 := k2.next hb4
  have hlt4 : w.heap.size < (w3.alloc (.cells #[.string ⟨#[97]⟩, .string ⟨#[112]⟩, .int .i64 1, .bool false, .string ⟨#[99]⟩, .bool false, .string ⟨#[]⟩, .bool false, .string ⟨#[]⟩, .bool false, .string ⟨#[]⟩] 29)).heap.size := g3.lt
  clear hb H3 hb4
  replace hf : At _ bf (0 + 0 * 11) #[.string ⟨#[98]⟩, .string ⟨#[113]⟩, .int .i64 1, .bool false, .string ⟨#[99]⟩, .bool false, .string ⟨#[]⟩, .bool false, .string ⟨#[]⟩, .bool false, .string ⟨#[]⟩] := hf
  go_upto_region 3 with (fail)
  generalize hw4 : w3.alloc (.cells #[.string ⟨#[97]⟩, .string ⟨#[112]⟩, .int .i64 1, .bool false, .string ⟨#[99]⟩, .bool false, .string ⟨#[]⟩, .bool false, .string ⟨#[]⟩, .bool false, .string ⟨#[]⟩] 29) = w4 at *
  generalize hg6 : w3.heap.size = g6 at *
  clear hw4 hg6
  replace hS := hS.trans ((Since.refl w4).drew)
  replace hf := hf.next ((Since.refl w4).drew)
  replace h6 := h6.next ((Since.refl w4).drew)
  replace k1 := k1.next ((Since.refl w4).drew)
  replace k2 := k2.next ((Since.refl w4).drew)
  replace g3 := g3.next ((Since.refl w4).drew)
  refine hx_begin (S := fun W => (Since w W) ∧ (At W bf (0 + 0 * 11) #[.string ⟨#[98]⟩, .string ⟨#[113]⟩, .int .i64 1, .bool false, .string ⟨#[99]⟩, .bool false, .string ⟨#[]⟩, .bool false, .string ⟨#[]⟩, .bool false, .string ⟨#[]⟩]) ∧ (At W g6 0 #[.string ⟨#[97]⟩, .string ⟨#[112]⟩, .int .i64 1, .bool false, .string ⟨#[99]⟩, .bool false, .string ⟨#[]⟩, .bool false, .string ⟨#[]⟩, .bool false, .string ⟨#[]⟩]) ∧ (At W b1 0 #[.string ⟨#[98]⟩, .string ⟨#[113]⟩, .int .i64 1, .bool true, .string ⟨#[88]⟩, .bool false, .string ⟨#[]⟩, .bool false, .string ⟨#[]⟩, .bool false, .string ⟨#[]⟩]) ∧ (At W b2 0 #[.string ⟨#[97]⟩, .string ⟨#[112]⟩, .int .i64 1, .bool true, .string ⟨#[88]⟩, .bool false, .string ⟨#[]⟩, .bool false, .string ⟨#[]⟩, .bool false, .string ⟨#[]⟩, .slice (some ⟨b1, 0, none⟩) 1 1])) (by kernel_rfl) ⟨hS, hf, h6, k1, k2⟩ (by kernel_rfl) (fun _ _ _ _ _ h => h) (fun hns hQ => ?_)
  refine hx_take (i := 0) (oi := _) (v := .slice (some ⟨b2, 0, none⟩) 1 1) rfl rfl hns (by kernel_rfl) (by kernel_rfl) hQ (by kernel_rfl) (fun _ _ => by kernel_rfl) ⟨hS, hf, h6, k1, k2⟩ ?_
  refine hx_take (i := 1) (oi := _) (v := .slice (some ⟨bf, 0, none⟩) 1 1) rfl rfl hns (by kernel_rfl) (by kernel_rfl) hQ (by kernel_rfl) (fun _ _ => by kernel_rfl) ⟨hS, hf, h6, k1, k2⟩ ?_
  refine hx_take (i := 2) (oi := _) (v := .slice (some ⟨bf, 0, none⟩) 1 1) rfl rfl hns (by kernel_rfl) (by kernel_rfl) hQ (by kernel_rfl) (fun _ _ => by kernel_rfl) ⟨hS, hf, h6, k1, k2⟩ ?_
  refine hx_take (i := 3) (oi := _) (v := .pointer (some ⟨bf, 0 + 0 * 11, none⟩)) rfl rfl hns (by kernel_rfl) (by kernel_rfl) hQ (by kernel_rfl) (fun W _ => ix_sl (n := 1) (c := 1) (K := 11) rfl (by kernel_rfl) (by kernel_rfl) (by kernel_rfl) rfl (by omega) W) ⟨hS, hf, h6, k1, k2⟩ ?_
  refine hx_take (i := 4) (oi := _) (v := .agg #[.string ⟨#[98]⟩, .string ⟨#[113]⟩, .int .i64 1, .bool false, .string ⟨#[99]⟩, .bool false, .string ⟨#[]⟩, .bool false, .string ⟨#[]⟩, .bool false, .string ⟨#[]⟩]) rfl rfl hns (by kernel_rfl) (by kernel_rfl) hQ (by kernel_rfl) (fun W hW => ld_at rfl (by kernel_rfl) (by kernel_rfl) (by kernel_rfl) W (hW.2.1)) ⟨hS, hf, h6, k1, k2⟩ ?_
  refine hx_take (i := 5) (oi := _) (v := .agg #[.string ⟨#[98]⟩, .string ⟨#[113]⟩, .int .i64 1, .bool false, .string ⟨#[99]⟩, .bool false, .string ⟨#[]⟩, .bool false, .string ⟨#[]⟩, .bool false, .string ⟨#[]⟩, .int .i64 (-1), .slice none 0 0]) rfl rfl hns (by kernel_rfl) (by kernel_rfl) hQ (by kernel_rfl) (fun _ _ => by kernel_rfl) ⟨hS, hf, h6, k1, k2⟩ ?_
  refine hx_take (i := 6) (oi := _) (v := .agg #[.string ⟨#[97]⟩, .string ⟨#[112]⟩, .int .i64 1, .bool false, .string ⟨#[99]⟩, .bool false, .string ⟨#[]⟩, .bool false, .string ⟨#[]⟩, .bool false, .string ⟨#[]⟩]) rfl rfl hns (by kernel_rfl) (by kernel_rfl) hQ (by kernel_rfl) (fun W hW => ld_at rfl (by kernel_rfl) (by kernel_rfl) (by kernel_rfl) W (hW.2.2.1)) ⟨hS, hf, h6, k1, k2⟩ ?_
  refine hx_take (i := 10) (oi := _) (v := .agg #[.string ⟨#[97]⟩, .string ⟨#[112]⟩, .int .i64 1, .bool false, .string ⟨#[99]⟩, .bool false, .string ⟨#[]⟩, .bool false, .string ⟨#[]⟩, .bool false, .string ⟨#[]⟩]) rfl rfl hns (by kernel_rfl) (by kernel_rfl) hQ (by kernel_rfl) (fun W hW => ld_at rfl (by kernel_rfl) (by kernel_rfl) (by kernel_rfl) W (hW.2.2.1)) ⟨hS, hf, h6, k1, k2⟩ ?_
  refine hx_take (i := 11) (oi := _) (v := .slice (some ⟨b2, 0, none⟩) 1 1) rfl rfl hns (by kernel_rfl) (by kernel_rfl) hQ (by kernel_rfl) (fun _ _ => by kernel_rfl) ⟨hS, hf, h6, k1, k2⟩ ?_
  refine hx_take (i := 12) (oi := _) (v := .slice (some ⟨bf, 0, none⟩) 1 1) rfl rfl hns (by kernel_rfl) (by kernel_rfl) hQ (by kernel_rfl) (fun _ _ => by kernel_rfl) ⟨hS, hf, h6, k1, k2⟩ ?_
  replace hS := hS.trans ((Since.refl w4.drew).alloc (.cells #[.int .i64 0] 3))
  replace hf := hf.next ((Since.refl w4.drew).alloc (.cells #[.int .i64 0] 3))
  replace h6 := h6.next ((Since.refl w4.drew).alloc (.cells #[.int .i64 0] 3))
  replace k1 := k1.next ((Since.refl w4.drew).alloc (.cells #[.int .i64 0] 3))
  replace k2 := k2.next ((Since.refl w4.drew).alloc (.cells #[.int .i64 0] 3))
  replace g3 := g3.next ((Since.refl w4.drew).alloc (.cells #[.int .i64 0] 3))
  refine hx_make (i := 7) (oi := _) (.slice (some ⟨w4.drew.heap.size, 0, none⟩) 1 1) (w4.drew.alloc (.cells #[.int .i64 0] 3)) rfl rfl (by kernel_rfl) (by kernel_rfl) (by kernel_rfl) ⟨hS, hf, h6, k1, k2⟩ ?_
  refine hx_take (i := 8) (oi := _) (v := .agg #[.string ⟨#[97]⟩, .string ⟨#[112]⟩, .int .i64 1, .bool false, .string ⟨#[99]⟩, .bool false, .string ⟨#[]⟩, .bool false, .string ⟨#[]⟩, .bool false, .string ⟨#[]⟩, .int .i64 0, .slice (some ⟨w4.drew.heap.size, 0, none⟩) 1 1]) rfl rfl hns (by kernel_rfl) (by kernel_rfl) hQ (by kernel_rfl) (fun _ _ => by kernel_rfl) ⟨hS, hf, h6, k1, k2⟩ ?_
  replace hS := hS.trans ((Since.refl (w4.drew.alloc (.cells #[.int .i64 0] 3))).alloc (.cells #[.string ⟨#[98]⟩, .string ⟨#[113]⟩, .int .i64 1, .bool false, .string ⟨#[99]⟩, .bool false, .string ⟨#[]⟩, .bool false, .string ⟨#[]⟩, .bool false, .string ⟨#[]⟩, .int .i64 (-1), .slice none 0 0, .string ⟨#[97]⟩, .string ⟨#[112]⟩, .int .i64 1, .bool false, .string ⟨#[99]⟩, .bool false, .string ⟨#[]⟩, .bool false, .string ⟨#[]⟩, .bool false, .string ⟨#[]⟩, .int .i64 0, .slice (some ⟨w4.drew.heap.size, 0, none⟩) 1 1] 49))
  replace hf := hf.next ((Since.refl (w4.drew.alloc (.cells #[.int .i64 0] 3))).alloc (.cells #[.string ⟨#[98]⟩, .string ⟨#[113]⟩, .int .i64 1, .bool false, .string ⟨#[99]⟩, .bool false, .string ⟨#[]⟩, .bool false, .string ⟨#[]⟩, .bool false, .string ⟨#[]⟩, .int .i64 (-1), .slice none 0 0, .string ⟨#[97]⟩, .string ⟨#[112]⟩, .int .i64 1, .bool false, .string ⟨#[99]⟩, .bool false, .string ⟨#[]⟩, .bool false, .string ⟨#[]⟩, .bool false, .string ⟨#[]⟩, .int .i64 0, .slice (some ⟨w4.drew.heap.size, 0, none⟩) 1 1] 49))
  replace h6 := h6.next ((Since.refl (w4.drew.alloc (.cells #[.int .i64 0] 3))).alloc (.cells #[.string ⟨#[98]⟩, .string ⟨#[113]⟩, .int .i64 1, .bool false, .string ⟨#[99]⟩, .bool false, .string ⟨#[]⟩, .bool false, .string ⟨#[]⟩, .bool false, .string ⟨#[]⟩, .int .i64 (-1), .slice none 0 0, .string ⟨#[97]⟩, .string ⟨#[112]⟩, .int .i64 1, .bool false, .string ⟨#[99]⟩, .bool false, .string ⟨#[]⟩, .bool false, .string ⟨#[]⟩, .bool false, .string ⟨#[]⟩, .int .i64 0, .slice (some ⟨w4.drew.heap.size, 0, none⟩) 1 1] 49))
  replace k1 := k1.next ((Since.refl (w4.drew.alloc (.cells #[.int .i64 0] 3))).alloc (.cells #[.string ⟨#[98]⟩, .string ⟨#[113]⟩, .int .i64 1, .bool false, .string ⟨#[99]⟩, .bool false, .string ⟨#[]⟩, .bool false, .string ⟨#[]⟩, .bool false, .string ⟨#[]⟩, .int .i64 (-1), .slice none 0 0, .string ⟨#[97]⟩, .string ⟨#[112]⟩, .int .i64 1, .bool false, .string ⟨#[99]⟩, .bool false, .string ⟨#[]⟩, .bool false, .string ⟨#[]⟩, .bool false, .string ⟨#[]⟩, .int .i64 0, .slice (some ⟨w4.drew.heap.size, 0, none⟩) 1 1] 49))
  replace k2 := k2.next ((Since.refl (w4.drew.alloc (.cells #[.int .i64 0] 3))).alloc (.cells #[.string ⟨#[98]⟩, .string ⟨#[113]⟩, .int .i64 1, .bool false, .string ⟨#[99]⟩, .bool false, .string ⟨#[]⟩, .bool false, .string ⟨#[]⟩, .bool false, .string ⟨#[]⟩, .int .i64 (-1), .slice none 0 0, .string ⟨#[97]⟩, .string ⟨#[112]⟩, .int .i64 1, .bool false, .string ⟨#[99]⟩, .bool false, .string ⟨#[]⟩, .bool false, .string ⟨#[]⟩, .bool false, .string ⟨#[]⟩, .int .i64 0, .slice (some ⟨w4.drew.heap.size, 0, none⟩) 1 1] 49))
  replace g3 := g3.next ((Since.refl (w4.drew.alloc (.cells #[.int .i64 0] 3))).alloc (.cells #[.string ⟨#[98]⟩, .string ⟨#[113]⟩, .int .i64 1, .bool false, .string ⟨#[99]⟩, .bool false, .string ⟨#[]⟩, .bool false, .string ⟨#[]⟩, .bool false, .string ⟨#[]⟩, .int .i64 (-1), .slice none 0 0, .string ⟨#[97]⟩, .string ⟨#[112]⟩, .int .i64 1, .bool false, .string ⟨#[99]⟩, .bool false, .string ⟨#[]⟩, .bool false, .string ⟨#[]⟩, .bool false, .string ⟨#[]⟩, .int .i64 0, .slice (some ⟨w4.drew.heap.size, 0, none⟩) 1 1] 49))
  refine hx_make (i := 9) (oi := _) (.slice (some ⟨(w4.drew.alloc (.cells #[.int .i64 0] 3)).heap.size, 0, none⟩) 2 2) ((w4.drew.alloc (.cells #[.int .i64 0] 3)).alloc (.cells #[.string ⟨#[98]⟩, .string ⟨#[113]⟩, .int .i64 1, .bool false, .string ⟨#[99]⟩, .bool false, .string ⟨#[]⟩, .bool false, .string ⟨#[]⟩, .bool false, .string ⟨#[]⟩, .int .i64 (-1), .slice none 0 0, .string ⟨#[97]⟩, .string ⟨#[112]⟩, .int .i64 1, .bool false, .string ⟨#[99]⟩, .bool false, .string ⟨#[]⟩, .bool false, .string ⟨#[]⟩, .bool false, .string ⟨#[]⟩, .int .i64 0, .slice (some ⟨w4.drew.heap.size, 0, none⟩) 1 1] 49)) rfl rfl (by kernel_rfl) (by kernel_rfl) (by kernel_rfl) ⟨hS, hf, h6, k1, k2⟩ ?_
  refine hx_take (i := 13) (oi := _) (v := .slice (some ⟨(w4.drew.alloc (.cells #[.int .i64 0] 3)).heap.size, 0, none⟩) 2 2) rfl rfl hns (by kernel_rfl) (by kernel_rfl) hQ (by kernel_rfl) (fun _ _ => by kernel_rfl) ⟨hS, hf, h6, k1, k2⟩ ?_
  have hgr : World.grownBy ((w4.drew.alloc (.cells #[.int .i64 0] 3)).alloc (.cells #[.string ⟨#[98]⟩, .string ⟨#[113]⟩, .int .i64 1, .bool false, .string ⟨#[99]⟩, .bool false, .string ⟨#[]⟩, .bool false, .string ⟨#[]⟩, .bool false, .string ⟨#[]⟩, .int .i64 (-1), .slice none 0 0, .string ⟨#[97]⟩, .string ⟨#[112]⟩, .int .i64 1, .bool false, .string ⟨#[99]⟩, .bool false, .string ⟨#[]⟩, .bool false, .string ⟨#[]⟩, .bool false, .string ⟨#[]⟩, .int .i64 0, .slice (some ⟨w4.drew.heap.size, 0, none⟩) 1 1] 49)) (((w4.drew.alloc (.cells #[.int .i64 0] 3)).alloc (.cells #[.string ⟨#[98]⟩, .string ⟨#[113]⟩, .int .i64 1, .bool false, .string ⟨#[99]⟩, .bool false, .string ⟨#[]⟩, .bool false, .string ⟨#[]⟩, .bool false, .string ⟨#[]⟩, .int .i64 (-1), .slice none 0 0, .string ⟨#[97]⟩, .string ⟨#[112]⟩, .int .i64 1, .bool false, .string ⟨#[99]⟩, .bool false, .string ⟨#[]⟩, .bool false, .string ⟨#[]⟩, .bool false, .string ⟨#[]⟩, .int .i64 0, .slice (some ⟨w4.drew.heap.size, 0, none⟩) 1 1] 49)).setRow w.heap.size #[.string ⟨#[97]⟩, .string ⟨#[112]⟩, .int .i64 1, .bool false, .string ⟨#[99]⟩, .bool false, .string ⟨#[]⟩, .bool false, .string ⟨#[]⟩, .bool false, .string ⟨#[]⟩]) (some w.heap.size) := grown_setRow _ _ _
  replace hf := hf.far hgr (fun e => by injection e with e; omega)
  replace h6 := h6.far hgr (fun e => by injection e with e; omega)
  replace k1 := k1.far hgr (fun e => by injection e with e; omega)
  replace k2 := k2.far hgr (fun e => by injection e with e; omega)
  replace hS := since_upd hS hgr (Nat.le_refl _)
  refine hx_store (i := 14) (oi := _) (((w4.drew.alloc (.cells #[.int .i64 0] 3)).alloc (.cells #[.string ⟨#[98]⟩, .string ⟨#[113]⟩, .int .i64 1, .bool false, .string ⟨#[99]⟩, .bool false, .string ⟨#[]⟩, .bool false, .string ⟨#[]⟩, .bool false, .string ⟨#[]⟩, .int .i64 (-1), .slice none 0 0, .string ⟨#[97]⟩, .string ⟨#[112]⟩, .int .i64 1, .bool false, .string ⟨#[99]⟩, .bool false, .string ⟨#[]⟩, .bool false, .string ⟨#[]⟩, .bool false, .string ⟨#[]⟩, .int .i64 0, .slice (some ⟨w4.drew.heap.size, 0, none⟩) 1 1] 49)).setRow w.heap.size #[.string ⟨#[97]⟩, .string ⟨#[112]⟩, .int .i64 1, .bool false, .string ⟨#[99]⟩, .bool false, .string ⟨#[]⟩, .bool false, .string ⟨#[]⟩, .bool false, .string ⟨#[]⟩]) rfl rfl (by kernel_rfl) (by kernel_rfl) (st_row rfl (by kernel_rfl) (by kernel_rfl) (by kernel_rfl) (by kernel_rfl) (by kernel_rfl) _ g3) ⟨hS, hf, h6, k1, k2⟩ ?_
  refine wpAnyH_done (by kernel_rfl) ?_ _
  clear hns hQ
  simp only [List.set_cons_zero, List.set_cons_succ]
  obtain ⟨w5, hw5⟩ : ∃ w5, Hid ((((w4.drew.alloc (.cells #[.int .i64 0] 3)).alloc (.cells #[.string ⟨#[98]⟩, .string ⟨#[113]⟩, .int .i64 1, .bool false, .string ⟨#[99]⟩, .bool false, .string ⟨#[]⟩, .bool false, .string ⟨#[]⟩, .bool false, .string ⟨#[]⟩, .int .i64 (-1), .slice none 0 0, .string ⟨#[97]⟩, .string ⟨#[112]⟩, .int .i64 1, .bool false, .string ⟨#[99]⟩, .bool false, .string ⟨#[]⟩, .bool false, .string ⟨#[]⟩, .bool false, .string ⟨#[]⟩, .int .i64 0, .slice (some ⟨w4.drew.heap.size, 0, none⟩) 1 1] 49)).setRow w.heap.size #[.string ⟨#[97]⟩, .string ⟨#[112]⟩, .int .i64 1, .bool false, .string ⟨#[99]⟩, .bool false, .string ⟨#[]⟩, .bool false, .string ⟨#[]⟩, .bool false, .string ⟨#[]⟩]) = w5) := ⟨_, rfl⟩
  have q1 : Cel (((w4.drew.alloc (.cells #[.int .i64 0] 3)).alloc (.cells #[.string ⟨#[98]⟩, .string ⟨#[113]⟩, .int .i64 1, .bool false, .string ⟨#[99]⟩, .bool false, .string ⟨#[]⟩, .bool false, .string ⟨#[]⟩, .bool false, .string ⟨#[]⟩, .int .i64 (-1), .slice none 0 0, .string ⟨#[97]⟩, .string ⟨#[112]⟩, .int .i64 1, .bool false, .string ⟨#[99]⟩, .bool false, .string ⟨#[]⟩, .bool false, .string ⟨#[]⟩, .bool false, .string ⟨#[]⟩, .int .i64 0, .slice (some ⟨w4.drew.heap.size, 0, none⟩) 1 1] 49)).setRow w.heap.size #[.string ⟨#[97]⟩, .string ⟨#[112]⟩, .int .i64 1, .bool false, .string ⟨#[99]⟩, .bool false, .string ⟨#[]⟩, .bool false, .string ⟨#[]⟩, .bool false, .string ⟨#[]⟩]) w4.drew.heap.size #[.int .i64 0] 3 := Cel.grown ((Cel.next (heap_alloc_new w4.drew _) ((Since.refl _).alloc _))) (grown_setRow _ _ _) (fun e => by injection e with e; have h := hlt4; have e2 : w.heap.size = w4.heap.size := e.symm; omega)
  have q2 : Cel (((w4.drew.alloc (.cells #[.int .i64 0] 3)).alloc (.cells #[.string ⟨#[98]⟩, .string ⟨#[113]⟩, .int .i64 1, .bool false, .string ⟨#[99]⟩, .bool false, .string ⟨#[]⟩, .bool false, .string ⟨#[]⟩, .bool false, .string ⟨#[]⟩, .int .i64 (-1), .slice none 0 0, .string ⟨#[97]⟩, .string ⟨#[112]⟩, .int .i64 1, .bool false, .string ⟨#[99]⟩, .bool false, .string ⟨#[]⟩, .bool false, .string ⟨#[]⟩, .bool false, .string ⟨#[]⟩, .int .i64 0, .slice (some ⟨w4.drew.heap.size, 0, none⟩) 1 1] 49)).setRow w.heap.size #[.string ⟨#[97]⟩, .string ⟨#[112]⟩, .int .i64 1, .bool false, .string ⟨#[99]⟩, .bool false, .string ⟨#[]⟩, .bool false, .string ⟨#[]⟩, .bool false, .string ⟨#[]⟩]) (w4.drew.alloc (.cells #[.int .i64 0] 3)).heap.size #[.string ⟨#[98]⟩, .string ⟨#[113]⟩, .int .i64 1, .bool false, .string ⟨#[99]⟩, .bool false, .string ⟨#[]⟩, .bool false, .string ⟨#[]⟩, .bool false, .string ⟨#[]⟩, .int .i64 (-1), .slice none 0 0, .string ⟨#[97]⟩, .string ⟨#[112]⟩, .int .i64 1, .bool false, .string ⟨#[99]⟩, .bool false, .string ⟨#[]⟩, .bool false, .string ⟨#[]⟩, .bool false, .string ⟨#[]⟩, .int .i64 0, .slice (some ⟨w4.drew.heap.size, 0, none⟩) 1 1] 49 := Cel.grown (heap_alloc_new (w4.drew.alloc (.cells #[.int .i64 0] 3)) _) (grown_setRow _ _ _) (fun e => by injection e with e; rw [World.size_alloc] at e; have h := hlt4; have e2 : w.heap.size = w4.heap.size + 1 := e.symm; omega)
  have q3 : At (((w4.drew.alloc (.cells #[.int .i64 0] 3)).alloc (.cells #[.string ⟨#[98]⟩, .string ⟨#[113]⟩, .int .i64 1, .bool false, .string ⟨#[99]⟩, .bool false, .string ⟨#[]⟩, .bool false, .string ⟨#[]⟩, .bool false, .string ⟨#[]⟩, .int .i64 (-1), .slice none 0 0, .string ⟨#[97]⟩, .string ⟨#[112]⟩, .int .i64 1, .bool false, .string ⟨#[99]⟩, .bool false, .string ⟨#[]⟩, .bool false, .string ⟨#[]⟩, .bool false, .string ⟨#[]⟩, .int .i64 0, .slice (some ⟨w4.drew.heap.size, 0, none⟩) 1 1] 49)).setRow w.heap.size #[.string ⟨#[97]⟩, .string ⟨#[112]⟩, .int .i64 1, .bool false, .string ⟨#[99]⟩, .bool false, .string ⟨#[]⟩, .bool false, .string ⟨#[]⟩, .bool false, .string ⟨#[]⟩]) w.heap.size 0 #[.string ⟨#[97]⟩, .string ⟨#[112]⟩, .int .i64 1, .bool false, .string ⟨#[99]⟩, .bool false, .string ⟨#[]⟩, .bool false, .string ⟨#[]⟩, .bool false, .string ⟨#[]⟩] := Cel.at (Cel.row g3 _)
  clear g3 h6
  rw [hw5.out] at hS hf k1 k2 q1 q2 q3
  have hw4s : w4.drew.heap.size = w4.heap.size := rfl
  rw [hw5.out]
  clear hw5
  obtain ⟨n1, hn1⟩ : ∃ n, Hid (w4.drew.heap.size = n) := ⟨_, rfl⟩
  obtain ⟨n2, hn2⟩ : ∃ n, Hid ((w4.drew.alloc (.cells #[.int .i64 0] 3)).heap.size = n) := ⟨_, rfl⟩
  rw [hn1.out] at q1 q2
  rw [hn2.out] at q2
  rw [hn1.out, hn2.out]
  obtain ⟨r1, r2⟩ := tiny_rows k1 k2 hf
  have r3 : SRow w5 (.slice (some ⟨n2, 0, none⟩) tinyS.length 2) tinyS := by
    refine ⟨_, _, rfl, Nat.le_refl _, fun _ => ⟨n2, 0, rfl, fun k hk => ?_⟩⟩
    have h2 : tinyS.length = 2 := rfl
    have q2' := q2.at
    have hk2 : k = 0 ∨ k = 1 := by omega
    rcases hk2 with rfl | rfl
    · exact ⟨atat_lit q2' 0 rfl, q2' 11 _ rfl, _, q2' 12 _ rfl, KRow.nil _ _⟩
    · refine ⟨atat_lit q2' 13 rfl, q2' 24 _ rfl, _, q2' 25 _ rfl, ⟨_, _, rfl, Nat.le_refl _, fun _ => ⟨n1, 0, rfl, fun k hk => ?_⟩⟩⟩
      obtain rfl : k = 0 := by
        have h : (tinyS[1]).2.2.length = 1 := rfl
        omega
      exact q1.cell 0
  clear hn1 hn2 q1 q2
  go_wp2_with fail
  refine bodyPost_ret (v := .tuple #[.slice (some ⟨b2, 0, none⟩) 1 1, .slice (some ⟨bf, 0, none⟩) 1 1, .slice (some ⟨n2, 0, none⟩) 2 2, .agg #[.string ⟨#[97]⟩, .string ⟨#[112]⟩, .int .i64 1, .bool false, .string ⟨#[99]⟩, .bool false, .string ⟨#[]⟩, .bool false, .string ⟨#[]⟩, .bool false, .string ⟨#[]⟩]]) (small_res _ _ _ _ _ _ q3 rfl rfl rfl rfl) rfl ?_
  exact ⟨_, _, _, rfl, r1, r2, r3, hS⟩
theorem goal_row {W : World} {b : Nat} (k1 : At W b 0 #[.string ⟨#[97]⟩, .string ⟨#[112]⟩, .int .i64 1, .bool false, .string ⟨#[99]⟩, .bool false, .string ⟨#[]⟩, .bool false, .string ⟨#[]⟩, .bool false, .string ⟨#[]⟩]) : ARow W (.slice (some ⟨b, 0, none⟩) [tinyG].length 1) [tinyG] := by
  refine ⟨_, _, rfl, Nat.le_refl _, fun _ => ⟨b, 0, rfl, fun k hk => ?_⟩⟩
  obtain rfl : k = 0 := by have : [tinyG].length = 1 := rfl; omega
  exact atat_lit k1 0 rfl
theorem tiny_check : checkS tinyC tinyF tinyS [tinyG] = (0, 0) := by kernel_rfl
theorem tiny_check0 : checkS tinyC [] tinyS [tinyG] = (0, 15) := by kernel_rfl
theorem fits_lit {a : Atm} (h : (decide (a.1.length ≤ 1000) && decide (a.2.1.length ≤ 1000) && (argsL a).all (fun t => decide (t.2.length ≤ 1000)) && decide (-1000 ≤ a.2.2.1) && decide (a.2.2.1 ≤ 1000)) = true) : FitsN a := by
  simp only [Bool.and_eq_true, decide_eq_true_eq, List.all_eq_true] at h
  obtain ⟨⟨⟨⟨h1, h2⟩, h3⟩, h4⟩, h5⟩ := h
  exact ⟨⟨by unfold maxLen; omega, by unfold maxLen; omega, fun t ht => by have := h3 t ht; unfold maxLen; omega⟩, by omega, by omega⟩
theorem tiny_fitsC : ∀ c ∈ tinyC, FitsC c := by
  intro c hc
  obtain rfl : c = tinyC[0] := by simpa [tinyC] using hc
  refine ⟨fits_lit (by kernel_rfl), fun a ha => ?_⟩
  obtain rfl : a = (([98], [113], 1, (true, [88]), (false, []), (false, []), (false, [])) : Atm) := by simpa [tinyC] using ha
  exact fits_lit (by kernel_rfl)
theorem tiny_lenC : ∀ c ∈ tinyC, c.2.length ≤ 100 := by
  intro c hc
  obtain rfl : c = tinyC[0] := by simpa [tinyC] using hc
  decide
theorem tiny_fitsF : ∀ a ∈ tinyF, FitsN a := by
  intro a ha
  obtain rfl : a = (([98], [113], 1, (false, [99]), (false, []), (false, []), (false, [])) : Atm) := by simpa [tinyF] using ha
  exact fits_lit (by kernel_rfl)
theorem tiny_fitsG : ∀ a ∈ [tinyG], FitsN a := by
  intro a ha
  obtain rfl : a = (([97], [112], 1, (false, [99]), (false, []), (false, []), (false, [])) : Atm) := by simpa [tinyG] using ha
  exact fits_lit (by kernel_rfl)
theorem tiny_fitsS : ∀ t ∈ tinyS, FitsN t.1 ∧ t.2.2.length ≤ 100000 := by
  intro t ht
  have h : t = tinyS[0] ∨ t = tinyS[1] := by simpa [tinyS] using ht
  rcases h with rfl | rfl <;> exact ⟨fits_lit (by kernel_rfl), by decide⟩
set_option maxHeartbeats 4000000 in
set_option maxRecDepth 100000 in
theorem lives22_any (w : World) (hE : Env w) : Calls Tryz.prog 4 #[] w fun e w' => e = .returned (.bool true) ∧ Since w w' := by
  go_enter Tryz.func4, Tryz.ntmps4
  go_wp2_with fail
  refine (small22_any _).mono ?_
  rintro e w1 ⟨va, vf, vs, rfl, hC, hF, hT, hb⟩
  have hS : Since w (w1.alloc (.cells #[.string ⟨#[97]⟩, .string ⟨#[112]⟩, .int .i64 1, .bool false, .string ⟨#[99]⟩, .bool false, .string ⟨#[]⟩, .bool false, .string ⟨#[]⟩, .bool false, .string ⟨#[]⟩] 29)) := hb.alloc _
  have hb1 : Since w1 (w1.alloc (.cells #[.string ⟨#[97]⟩, .string ⟨#[112]⟩, .int .i64 1, .bool false, .string ⟨#[99]⟩, .bool false, .string ⟨#[]⟩, .bool false, .string ⟨#[]⟩, .bool false, .string ⟨#[]⟩] 29)) := (Since.refl _).alloc _
  have h4 : At (w1.alloc (.cells #[.string ⟨#[97]⟩, .string ⟨#[112]⟩, .int .i64 1, .bool false, .string ⟨#[99]⟩, .bool false, .string ⟨#[]⟩, .bool false, .string ⟨#[]⟩, .bool false, .string ⟨#[]⟩] 29)) w1.heap.size 0 #[.string ⟨#[97]⟩, .string ⟨#[112]⟩, .int .i64 1, .bool false, .string ⟨#[99]⟩, .bool false, .string ⟨#[]⟩, .bool false, .string ⟨#[]⟩, .bool false, .string ⟨#[]⟩] := Cel.at (heap_alloc_new w1 _)
  have HC := Lib.hid (rnext hC hb1)
  have HF := Lib.hid (anext hF hb1)
  have HT := Lib.hid (snext hT hb1)
  have HE := Lib.hid (hE.next hS)
  clear hb hb1 hC hF hT hE
  go_upto_region 2 with (fail)
  generalize hw2 : w1.alloc (.cells #[.string ⟨#[97]⟩, .string ⟨#[112]⟩, .int .i64 1, .bool false, .string ⟨#[99]⟩, .bool false, .string ⟨#[]⟩, .bool false, .string ⟨#[]⟩, .bool false, .string ⟨#[]⟩] 29) = w2 at *
  generalize hg4 : w1.heap.size = g4 at *
  clear hw2 hg4
  have s0 : w2.cell? ⟨g4, 0, none⟩ = some (.string ⟨#[97]⟩) := h4 0 _ rfl
  have s1 : w2.cell? ⟨g4, 1, none⟩ = some (.string ⟨#[112]⟩) := h4 1 _ rfl
  have s2 : w2.cell? ⟨g4, 2, none⟩ = some (.int .i64 1) := h4 2 _ rfl
  have s3 : w2.cell? ⟨g4, 3, none⟩ = some (.bool false) := h4 3 _ rfl
  have s4 : w2.cell? ⟨g4, 4, none⟩ = some (.string ⟨#[99]⟩) := h4 4 _ rfl
  have s5 : w2.cell? ⟨g4, 5, none⟩ = some (.bool false) := h4 5 _ rfl
  have s6 : w2.cell? ⟨g4, 6, none⟩ = some (.string ⟨#[]⟩) := h4 6 _ rfl
  have s7 : w2.cell? ⟨g4, 7, none⟩ = some (.bool false) := h4 7 _ rfl
  have s8 : w2.cell? ⟨g4, 8, none⟩ = some (.string ⟨#[]⟩) := h4 8 _ rfl
  have s9 : w2.cell? ⟨g4, 9, none⟩ = some (.bool false) := h4 9 _ rfl
  have s10 : w2.cell? ⟨g4, 10, none⟩ = some (.string ⟨#[]⟩) := h4 10 _ rfl
  have h5 : At (w2.alloc (.cells #[.string ⟨#[97]⟩, .string ⟨#[112]⟩, .int .i64 1, .bool false, .string ⟨#[99]⟩, .bool false, .string ⟨#[]⟩, .bool false, .string ⟨#[]⟩, .bool false, .string ⟨#[]⟩] 29)) w2.heap.size 0 #[.string ⟨#[97]⟩, .string ⟨#[112]⟩, .int .i64 1, .bool false, .string ⟨#[99]⟩, .bool false, .string ⟨#[]⟩, .bool false, .string ⟨#[]⟩, .bool false, .string ⟨#[]⟩] := Cel.at (heap_alloc_new w2 _)
  have hs5 : Since w2 (w2.alloc (.cells #[.string ⟨#[97]⟩, .string ⟨#[112]⟩, .int .i64 1, .bool false, .string ⟨#[99]⟩, .bool false, .string ⟨#[]⟩, .bool false, .string ⟨#[]⟩, .bool false, .string ⟨#[]⟩] 29)) := (Since.refl _).alloc _
  have HCK := Lib.hid (kcheck_any va 1 tinyC vf 1 tinyF vs 2 tinyS (some ⟨w2.heap.size, 0, none⟩) 1 [tinyG] _ (rnext HC.out hs5) (anext HF.out hs5) (snext HT.out hs5) (goal_row h5) (by decide) (by decide) (by decide) (by decide) tiny_lenC tiny_fitsC tiny_fitsF tiny_fitsG tiny_fitsS (HE.out.next hs5))
  rw [tiny_check] at HCK
  clear h5
  go_wp2_with fail
  refine HCK.out.mono ?_
  rintro e w3 ⟨rfl, hb⟩
  have hS3 := hs5.trans hb
  replace h4 := h4.next hS3
  clear s0 s1 s2 s3 s4 s5 s6 s7 s8 s9 s10 HCK hs5 hb
  have s0 : w3.cell? ⟨g4, 0, none⟩ = some (.string ⟨#[97]⟩) := h4 0 _ rfl
  have s1 : w3.cell? ⟨g4, 1, none⟩ = some (.string ⟨#[112]⟩) := h4 1 _ rfl
  have s2 : w3.cell? ⟨g4, 2, none⟩ = some (.int .i64 1) := h4 2 _ rfl
  have s3 : w3.cell? ⟨g4, 3, none⟩ = some (.bool false) := h4 3 _ rfl
  have s4 : w3.cell? ⟨g4, 4, none⟩ = some (.string ⟨#[99]⟩) := h4 4 _ rfl
  have s5 : w3.cell? ⟨g4, 5, none⟩ = some (.bool false) := h4 5 _ rfl
  have s6 : w3.cell? ⟨g4, 6, none⟩ = some (.string ⟨#[]⟩) := h4 6 _ rfl
  have s7 : w3.cell? ⟨g4, 7, none⟩ = some (.bool false) := h4 7 _ rfl
  have s8 : w3.cell? ⟨g4, 8, none⟩ = some (.string ⟨#[]⟩) := h4 8 _ rfl
  have s9 : w3.cell? ⟨g4, 9, none⟩ = some (.bool false) := h4 9 _ rfl
  have s10 : w3.cell? ⟨g4, 10, none⟩ = some (.string ⟨#[]⟩) := h4 10 _ rfl
  have h5 : At (w3.alloc (.cells #[.string ⟨#[97]⟩, .string ⟨#[112]⟩, .int .i64 1, .bool false, .string ⟨#[99]⟩, .bool false, .string ⟨#[]⟩, .bool false, .string ⟨#[]⟩, .bool false, .string ⟨#[]⟩] 29)) w3.heap.size 0 #[.string ⟨#[97]⟩, .string ⟨#[112]⟩, .int .i64 1, .bool false, .string ⟨#[99]⟩, .bool false, .string ⟨#[]⟩, .bool false, .string ⟨#[]⟩, .bool false, .string ⟨#[]⟩] := Cel.at (heap_alloc_new w3 _)
  have hs5 : Since w2 (w3.alloc (.cells #[.string ⟨#[97]⟩, .string ⟨#[112]⟩, .int .i64 1, .bool false, .string ⟨#[99]⟩, .bool false, .string ⟨#[]⟩, .bool false, .string ⟨#[]⟩, .bool false, .string ⟨#[]⟩] 29)) := hS3.alloc _
  have HCK := Lib.hid (kcheck_any va 1 tinyC none 0 [] vs 2 tinyS (some ⟨w3.heap.size, 0, none⟩) 1 [tinyG] _ (rnext HC.out hs5) (KRow.nil _ _) (snext HT.out hs5) (goal_row h5) (by decide) (by decide) (by decide) (by decide) tiny_lenC tiny_fitsC (fun _ h => by cases h) tiny_fitsG tiny_fitsS (HE.out.next hs5))
  rw [tiny_check0] at HCK
  clear h5
  go_wp2_with fail
  refine HCK.out.mono ?_
  rintro e w4 ⟨rfl, hb⟩
  go_wp2_with fail
  go_ret
  exact ⟨rfl, (hS.trans hs5).trans hb⟩
end Go.Proofs.YtdlnmkdbjgbimaaGreatDoor
