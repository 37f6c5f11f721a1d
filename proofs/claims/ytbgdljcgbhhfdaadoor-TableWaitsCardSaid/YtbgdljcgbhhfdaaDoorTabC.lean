/- Package table: New, Find, Call. -/
import Derived.Test.YtbgdljcgbhhfdaaDoorTabB
namespace Go.Proofs.YtbgdljcgbhhfdaaDoor
open Go.RowKit Go.Maps Go.WideMaps

theorem TabAt.head {W : World} {B g mp np : Nat} {cv : Value} {R : List CallP} {S : List TCall} (h : TabAt W B g mp np cv R S) : At W g 0 #[.map (some mp)] := by
  intro j u hu
  have hj : j = 0 := by have := (Array.getElem?_eq_some_iff.1 hu).1; simp at this; omega
  subst hj
  have h1 := h.cel.cell 0
  rw [Nat.zero_add, h1, ← hu]; rfl
set_option maxHeartbeats 2000000 in
theorem tnew_any (w : World) : Calls Tryd.prog 9 #[] w fun e w' => ∃ g mp, e = .returned (.pointer (some ⟨g, 0, none⟩)) ∧ TabAt w' w.heap.size g mp 0 (.slice none 0 0) [] [] ∧ Since w w' := by
  have hmm := @run_makeMap Tryd.prog
  have hS : Since w ((w.alloc (.map #[] 0)).alloc (.cells #[.map (some w.heap.size), .slice none 0 0, .int .i64 0] 64)) := ((Since.refl _).alloc _).alloc _
  have hC : Cel ((w.alloc (.map #[] 0)).alloc (.cells #[.map (some w.heap.size), .slice none 0 0, .int .i64 0] 64)) (w.heap.size + 1) #[.map (some w.heap.size), .slice none 0 0, .int .i64 0] 64 := by
    have h := heap_alloc_new (w.alloc (.map #[] 0)) (.cells #[.map (some w.heap.size), .slice none 0 0, .int .i64 0] 64)
    rw [World.size_alloc] at h
    exact h
  have hM : AIdx ((w.alloc (.map #[] 0)).alloc (.cells #[.map (some w.heap.size), .slice none 0 0, .int .i64 0] 64)) w.heap.size 0 [] := (kidx_made _ _ w).next ((Since.refl _).alloc _)
  have HT : Hid (TabAt ((w.alloc (.map #[] 0)).alloc (.cells #[.map (some w.heap.size), .slice none 0 0, .int .i64 0] 64)) w.heap.size (w.heap.size + 1) w.heap.size 0 (.slice none 0 0) [] []) :=
    ⟨hC, hM, World.ownsRow_nil _ _ _ _, rfl, fun i h => absurd h (by simp), List.Pairwise.nil, (fun p hp => by cases hp), Nat.le_succ _, Nat.le_refl _, List.nodup_nil, Nat.le_refl _, by simp⟩
  clear hC hM
  go_enter Tryd.func9, Tryd.ntmps9
  go_wp2_with fail
  go_ret
  exact ⟨_, _, rfl, HT.out, hS⟩
set_option maxHeartbeats 4000000 in
set_option maxRecDepth 100000 in
theorem tfind_any {B g mp np : Nat} {cv : Value} {R : List CallP} {S : List TCall} (a_s a_p : List UInt8) (a_n : Int) (a_v0 a_v1 a_v2 a_v3 : Bool) (a_l0 a_l1 a_l2 a_l3 : List UInt8) (w : World) (h : TabAt w B g mp np cv R S) (hf : FitsN ((a_s, a_p, a_n, (a_v0, a_l0), (a_v1, a_l1), (a_v2, a_l2), (a_v3, a_l3)) : Atm)) :
    Calls Tryd.prog 12 #[.pointer (some ⟨g, 0, none⟩), .agg #[.string ⟨a_s.toArray⟩, .string ⟨a_p.toArray⟩, .int .i64 a_n, .bool a_v0, .string ⟨a_l0.toArray⟩, .bool a_v1, .string ⟨a_l1.toArray⟩, .bool a_v2, .string ⟨a_l2.toArray⟩, .bool a_v3, .string ⟨a_l3.toArray⟩]] w fun e w' => e = .returned (.tuple #[.int .i64 (posV (posF (S.map fun c => c.1) (canA ((a_s, a_p, a_n, (a_v0, a_l0), (a_v1, a_l1), (a_v2, a_l2), (a_v3, a_l3)) : Atm)) 0)), .bool (posF (S.map fun c => c.1) (canA ((a_s, a_p, a_n, (a_v0, a_l0), (a_v1, a_l1), (a_v2, a_l2), (a_v3, a_l3)) : Atm)) 0).isSome]) ∧ Since w w' := by
  have hS : Since w (w.alloc (.cells #[.string ⟨a_s.toArray⟩, .string ⟨a_p.toArray⟩, .int .i64 a_n, .bool a_v0, .string ⟨a_l0.toArray⟩, .bool a_v1, .string ⟨a_l1.toArray⟩, .bool a_v2, .string ⟨a_l2.toArray⟩, .bool a_v3, .string ⟨a_l3.toArray⟩] 34)) := (Since.refl w).alloc _
  have aA : At (w.alloc (.cells #[.string ⟨a_s.toArray⟩, .string ⟨a_p.toArray⟩, .int .i64 a_n, .bool a_v0, .string ⟨a_l0.toArray⟩, .bool a_v1, .string ⟨a_l1.toArray⟩, .bool a_v2, .string ⟨a_l2.toArray⟩, .bool a_v3, .string ⟨a_l3.toArray⟩] 34)) w.heap.size 0 #[.string ⟨a_s.toArray⟩, .string ⟨a_p.toArray⟩, .int .i64 a_n, .bool a_v0, .string ⟨a_l0.toArray⟩, .bool a_v1, .string ⟨a_l1.toArray⟩, .bool a_v2, .string ⟨a_l2.toArray⟩, .bool a_v3, .string ⟨a_l3.toArray⟩] := Cel.at (heap_alloc_new w _)
  have hT := h.next hS
  have HF := Lib.hid hf
  obtain ⟨r, hr⟩ : ∃ r, Hid (r = posF (S.map fun c => c.1) (canA ((a_s, a_p, a_n, (a_v0, a_l0), (a_v1, a_l1), (a_v2, a_l2), (a_v3, a_l3)) : Atm)) 0) := ⟨_, rfl⟩
  have HPL := Lib.hid (fun W (hT : TabAt W B g mp np cv R S) => place_any g mp np (S.map fun c => c.1) a_s a_p a_n a_v0 a_v1 a_v2 a_v3 a_l0 a_l1 a_l2 a_l3 W hT.head hT.map hT.fits HF.out hT.nd)
  rw [← hr.out] at HPL ⊢
  clear h hf hr
  go_enter Tryd.func12, Tryd.ntmps12
  go_upto_region 3 with (fail)
  generalize hw1 : w.alloc (.cells #[.string ⟨a_s.toArray⟩, .string ⟨a_p.toArray⟩, .int .i64 a_n, .bool a_v0, .string ⟨a_l0.toArray⟩, .bool a_v1, .string ⟨a_l1.toArray⟩, .bool a_v2, .string ⟨a_l2.toArray⟩, .bool a_v3, .string ⟨a_l3.toArray⟩] 34) = w1 at *
  clear hw1
  replace hS := hS.trans ((Since.refl w1).drew)
  replace aA := aA.next ((Since.refl w1).drew)
  replace hT := hT.next ((Since.refl w1).drew)
  refine hx_begin (S := fun W => (Since w W) ∧ (At W w.heap.size 0 #[.string ⟨a_s.toArray⟩, .string ⟨a_p.toArray⟩, .int .i64 a_n, .bool a_v0, .string ⟨a_l0.toArray⟩, .bool a_v1, .string ⟨a_l1.toArray⟩, .bool a_v2, .string ⟨a_l2.toArray⟩, .bool a_v3, .string ⟨a_l3.toArray⟩]) ∧ (TabAt W B g mp np cv R S)) (by kernel_rfl) ⟨hS, aA, hT⟩ (by kernel_rfl) (fun _ _ _ _ _ h => h) (fun hns hQ => ?_)
  refine hx_take (i := 0) (oi := _) (v := .pointer (some ⟨g, 0, none⟩)) rfl rfl hns (by kernel_rfl) (by kernel_rfl) hQ (by kernel_rfl) (fun _ _ => by kernel_rfl) ⟨hS, aA, hT⟩ ?_
  refine hx_take (i := 1) (oi := _) (v := .pointer (some ⟨g, 0, none⟩)) rfl rfl hns (by kernel_rfl) (by kernel_rfl) hQ (by kernel_rfl) (fun _ _ => by kernel_rfl) ⟨hS, aA, hT⟩ ?_
  refine hx_take (i := 2) (oi := _) (v := .pointer (some ⟨g, 0, none⟩)) rfl rfl hns (by kernel_rfl) (by kernel_rfl) hQ (by kernel_rfl) (fun _ _ => by kernel_rfl) ⟨hS, aA, hT⟩ ?_
  refine hx_take (i := 3) (oi := _) (v := .agg #[.string ⟨a_s.toArray⟩, .string ⟨a_p.toArray⟩, .int .i64 a_n, .bool a_v0, .string ⟨a_l0.toArray⟩, .bool a_v1, .string ⟨a_l1.toArray⟩, .bool a_v2, .string ⟨a_l2.toArray⟩, .bool a_v3, .string ⟨a_l3.toArray⟩]) rfl rfl hns (by kernel_rfl) (by kernel_rfl) hQ (by kernel_rfl) (fun W hW => ld_at rfl (by kernel_rfl) (by kernel_rfl) (by kernel_rfl) W (hW.2.1)) ⟨hS, aA, hT⟩ ?_
  refine hx_call (i := 4) (oi := _) 28 #[.pointer (some ⟨g, 0, none⟩), .agg #[.string ⟨a_s.toArray⟩, .string ⟨a_p.toArray⟩, .int .i64 a_n, .bool a_v0, .string ⟨a_l0.toArray⟩, .bool a_v1, .string ⟨a_l1.toArray⟩, .bool a_v2, .string ⟨a_l2.toArray⟩, .bool a_v3, .string ⟨a_l3.toArray⟩]] rfl rfl (by kernel_rfl) (by kernel_rfl) (by kernel_rfl) (HPL.out _ hT) ?_
  rintro e wx61 ⟨rfl, hb⟩
  replace hS := hS.trans hb
  replace aA := aA.next hb
  replace hT := hT.next hb
  clear hb
  refine ⟨_, rfl, ⟨hS, aA, hT⟩, ?_⟩
  refine hx_take (i := 5) (oi := _) (v := .int .i64 (posV r)) rfl rfl hns (by kernel_rfl) (by kernel_rfl) hQ (by kernel_rfl) (fun _ _ => by kernel_rfl) ⟨hS, aA, hT⟩ ?_
  refine hx_take (i := 6) (oi := _) (v := .bool r.isSome) rfl rfl hns (by kernel_rfl) (by kernel_rfl) hQ (by kernel_rfl) (fun _ _ => by kernel_rfl) ⟨hS, aA, hT⟩ ?_
  refine hx_take (i := 7) (oi := _) (v := .int .i64 (posV r)) rfl rfl hns (by kernel_rfl) (by kernel_rfl) hQ (by kernel_rfl) (fun _ _ => by kernel_rfl) ⟨hS, aA, hT⟩ ?_
  refine hx_take (i := 8) (oi := _) (v := .bool r.isSome) rfl rfl hns (by kernel_rfl) (by kernel_rfl) hQ (by kernel_rfl) (fun _ _ => by kernel_rfl) ⟨hS, aA, hT⟩ ?_
  refine wpAnyH_done (by kernel_rfl) ?_ _
  clear hns hQ
  simp only [List.set_cons_zero, List.set_cons_succ]
  go_wp2_with fail
  go_ret2
  exact ⟨rfl, hS⟩
set_option maxHeartbeats 4000000 in
set_option maxRecDepth 100000 in
theorem tcall_yes {B g mp np : Nat} {cv : Value} {R : List CallP} {S : List TCall} (i : Nat) (w : World) (h : TabAt w B g mp np cv R S) (hi : i < S.length) :
    Calls Tryd.prog 13 #[.pointer (some ⟨g, 0, none⟩), .int .i64 (i : Int)] w fun e w' => e = .returned (.tuple #[.agg (atmC (S[i]).1), .bool true]) ∧ Since w w' := by
  have hS1 : Since w (w.alloc (.cells #[.string ⟨#[]⟩, .string ⟨#[]⟩, .int .i64 0, .bool false, .string ⟨#[]⟩, .bool false, .string ⟨#[]⟩, .bool false, .string ⟨#[]⟩, .bool false, .string ⟨#[]⟩] 34)) := (Since.refl _).alloc _
  have K2 : Hid (Cel (w.alloc (.cells #[.string ⟨#[]⟩, .string ⟨#[]⟩, .int .i64 0, .bool false, .string ⟨#[]⟩, .bool false, .string ⟨#[]⟩, .bool false, .string ⟨#[]⟩, .bool false, .string ⟨#[]⟩] 34)) w.heap.size #[.string ⟨#[]⟩, .string ⟨#[]⟩, .int .i64 0, .bool false, .string ⟨#[]⟩, .bool false, .string ⟨#[]⟩, .bool false, .string ⟨#[]⟩, .bool false, .string ⟨#[]⟩] 34) := heap_alloc_new w _
  have hi2 : i < R.length := by rw [h.len]; exact hi
  have HAT := Lib.hid (tat_yes i _ (h.next hS1) hi2)
  have hcl := (h.call i hi2 hi).cel
  obtain ⟨q, hq⟩ : ∃ q, Hid (q = R[i]) := ⟨R[i], rfl⟩
  obtain ⟨⟨⟨x_s, x_p, x_n, ⟨x_v0, x_l0⟩, ⟨x_v1, x_l1⟩, ⟨x_v2, x_l2⟩, ⟨x_v3, x_l3⟩⟩, xs, ws⟩, hx⟩ : ∃ x, Hid (x = S[i]) := ⟨S[i], rfl⟩
  rw [← hq.out, ← hx.out] at hcl
  rw [← hq.out] at HAT
  rw [← hx.out]
  obtain ⟨qb, qt, qn, qa, qw⟩ := q
  simp only at HAT hcl
  have HCL : Hid (Cel w qb #[.string ⟨x_s.toArray⟩, .string ⟨x_p.toArray⟩, .int .i64 x_n, .bool x_v0, .string ⟨x_l0.toArray⟩, .bool x_v1, .string ⟨x_l1.toArray⟩, .bool x_v2, .string ⟨x_l2.toArray⟩, .bool x_v3, .string ⟨x_l3.toArray⟩, qa, .map (some qt), qw] 68) := hcl
  have HH := Lib.hid (h.next hS1)
  clear h hi hi2 hcl hq hx
  go_enter Tryd.func13, Tryd.ntmps13
  go_wp2_with fail
  refine HAT.out.mono ?_
  rintro e w2 ⟨rfl, hb2⟩
  have hS2 := hS1.trans hb2
  have K2b := Lib.hid (K2.out.next hb2)
  have hC2 := HCL.out.next hS2
  have x0 : w2.cell? ⟨qb, 0, none⟩ = some (.string ⟨x_s.toArray⟩) := hC2.cell 0
  have x1 : w2.cell? ⟨qb, 1, none⟩ = some (.string ⟨x_p.toArray⟩) := hC2.cell 1
  have x2 : w2.cell? ⟨qb, 2, none⟩ = some (.int .i64 x_n) := hC2.cell 2
  have x3 : w2.cell? ⟨qb, 3, none⟩ = some (.bool x_v0) := hC2.cell 3
  have x4 : w2.cell? ⟨qb, 4, none⟩ = some (.string ⟨x_l0.toArray⟩) := hC2.cell 4
  have x5 : w2.cell? ⟨qb, 5, none⟩ = some (.bool x_v1) := hC2.cell 5
  have x6 : w2.cell? ⟨qb, 6, none⟩ = some (.string ⟨x_l1.toArray⟩) := hC2.cell 6
  have x7 : w2.cell? ⟨qb, 7, none⟩ = some (.bool x_v2) := hC2.cell 7
  have x8 : w2.cell? ⟨qb, 8, none⟩ = some (.string ⟨x_l2.toArray⟩) := hC2.cell 8
  have x9 : w2.cell? ⟨qb, 9, none⟩ = some (.bool x_v3) := hC2.cell 9
  have x10 : w2.cell? ⟨qb, 10, none⟩ = some (.string ⟨x_l3.toArray⟩) := hC2.cell 10
  have hone : Hid (((#[.string ⟨x_s.toArray⟩, .string ⟨x_p.toArray⟩, .int .i64 x_n, .bool x_v0, .string ⟨x_l0.toArray⟩, .bool x_v1, .string ⟨x_l1.toArray⟩, .bool x_v2, .string ⟨x_l2.toArray⟩, .bool x_v3, .string ⟨x_l3.toArray⟩] : Array Value).all (·.oneCell')) = true) := by show _ = _; simp [Value.oneCell']
  clear hC2 HCL K2 HAT
  go_wp2_with (refine wpList_store_row rfl 34 (.tmp 4) (.tmp 15) rfl w.heap.size #[.string ⟨x_s.toArray⟩, .string ⟨x_p.toArray⟩, .int .i64 x_n, .bool x_v0, .string ⟨x_l0.toArray⟩, .bool x_v1, .string ⟨x_l1.toArray⟩, .bool x_v2, .string ⟨x_l2.toArray⟩, .bool x_v3, .string ⟨x_l3.toArray⟩] rfl rfl 34 #[.string ⟨#[]⟩, .string ⟨#[]⟩, .int .i64 0, .bool false, .string ⟨#[]⟩, .bool false, .string ⟨#[]⟩, .bool false, .string ⟨#[]⟩, .bool false, .string ⟨#[]⟩] K2b.out ainfoC rfl hone.out ?_)
  have hbx : Box (w2.setRow w.heap.size #[.string ⟨x_s.toArray⟩, .string ⟨x_p.toArray⟩, .int .i64 x_n, .bool x_v0, .string ⟨x_l0.toArray⟩, .bool x_v1, .string ⟨x_l1.toArray⟩, .bool x_v2, .string ⟨x_l2.toArray⟩, .bool x_v3, .string ⟨x_l3.toArray⟩]) w.heap.size ((x_s, x_p, x_n, (x_v0, x_l0), (x_v1, x_l1), (x_v2, x_l2), (x_v3, x_l3)) : Atm) := cel_boxA (T := 34) (K2b.out.row (atmC ((x_s, x_p, x_n, (x_v0, x_l0), (x_v1, x_l1), (x_v2, x_l2), (x_v3, x_l3)) : Atm)))
  obtain ⟨e0, e1, e2, e3, e4, e5, e6, e7, e8, e9, e10⟩ := hbx.all
  clear x0 x1 x2 x3 x4 x5 x6 x7 x8 x9 x10 hone K2b
  go_wp2_with fail
  refine bodyPost_ret (v := .tuple #[.agg #[.string ⟨x_s.toArray⟩, .string ⟨x_p.toArray⟩, .int .i64 x_n, .bool x_v0, .string ⟨x_l0.toArray⟩, .bool x_v1, .string ⟨x_l1.toArray⟩, .bool x_v2, .string ⟨x_l2.toArray⟩, .bool x_v3, .string ⟨x_l3.toArray⟩], .bool true]) (by simp [results, Tryd.results13, go_sem, e0, e1, e2, e3, e4, e5, e6, e7, e8, e9, e10]) rfl ?_
  exact ⟨rfl, since_setRow hS2 (Nat.le_refl _) _⟩
set_option maxHeartbeats 4000000 in
set_option maxRecDepth 100000 in
theorem tcall_no {B g mp np : Nat} {cv : Value} {R : List CallP} {S : List TCall} (i : Int) (w : World) (h : TabAt w B g mp np cv R S) (hi : i < 0 ∨ (S.length : Int) ≤ i) :
    Calls Tryd.prog 13 #[.pointer (some ⟨g, 0, none⟩), .int .i64 i] w fun e w' => e = .returned (.tuple #[.agg #[.string ⟨#[]⟩, .string ⟨#[]⟩, .int .i64 0, .bool false, .string ⟨#[]⟩, .bool false, .string ⟨#[]⟩, .bool false, .string ⟨#[]⟩, .bool false, .string ⟨#[]⟩], .bool false]) ∧ Since w w' := by
  have hS1 : Since w (w.alloc (.cells #[.string ⟨#[]⟩, .string ⟨#[]⟩, .int .i64 0, .bool false, .string ⟨#[]⟩, .bool false, .string ⟨#[]⟩, .bool false, .string ⟨#[]⟩, .bool false, .string ⟨#[]⟩] 34)) := (Since.refl _).alloc _
  have K2 : Hid (Cel (w.alloc (.cells #[.string ⟨#[]⟩, .string ⟨#[]⟩, .int .i64 0, .bool false, .string ⟨#[]⟩, .bool false, .string ⟨#[]⟩, .bool false, .string ⟨#[]⟩, .bool false, .string ⟨#[]⟩] 34)) w.heap.size #[.string ⟨#[]⟩, .string ⟨#[]⟩, .int .i64 0, .bool false, .string ⟨#[]⟩, .bool false, .string ⟨#[]⟩, .bool false, .string ⟨#[]⟩, .bool false, .string ⟨#[]⟩] 34) := heap_alloc_new w _
  have HAT := Lib.hid (tat_no i _ (h.next hS1) hi)
  clear h hi
  go_enter Tryd.func13, Tryd.ntmps13
  go_wp2_with fail
  refine HAT.out.mono ?_
  rintro e w2 ⟨rfl, hb2⟩
  have hS2 := hS1.trans hb2
  have K2b := Lib.hid (K2.out.next hb2)
  have hone : Hid (((#[.string ⟨#[]⟩, .string ⟨#[]⟩, .int .i64 0, .bool false, .string ⟨#[]⟩, .bool false, .string ⟨#[]⟩, .bool false, .string ⟨#[]⟩, .bool false, .string ⟨#[]⟩] : Array Value).all (·.oneCell')) = true) := by show _ = _; simp [Value.oneCell']
  clear K2 HAT
  go_wp2_with (refine wpList_store_row rfl 34 (.tmp 4) (.tmp 16) rfl w.heap.size #[.string ⟨#[]⟩, .string ⟨#[]⟩, .int .i64 0, .bool false, .string ⟨#[]⟩, .bool false, .string ⟨#[]⟩, .bool false, .string ⟨#[]⟩, .bool false, .string ⟨#[]⟩] rfl rfl 34 #[.string ⟨#[]⟩, .string ⟨#[]⟩, .int .i64 0, .bool false, .string ⟨#[]⟩, .bool false, .string ⟨#[]⟩, .bool false, .string ⟨#[]⟩, .bool false, .string ⟨#[]⟩] K2b.out ainfoC rfl hone.out ?_)
  have hbx : Box (w2.setRow w.heap.size #[.string ⟨#[]⟩, .string ⟨#[]⟩, .int .i64 0, .bool false, .string ⟨#[]⟩, .bool false, .string ⟨#[]⟩, .bool false, .string ⟨#[]⟩, .bool false, .string ⟨#[]⟩]) w.heap.size zeroAC := cel_boxA (T := 34) (K2b.out.row (atmC zeroAC))
  obtain ⟨e0, e1, e2, e3, e4, e5, e6, e7, e8, e9, e10⟩ := hbx.all
  clear hone K2b
  go_wp2_with fail
  refine bodyPost_ret (v := .tuple #[.agg #[.string ⟨#[]⟩, .string ⟨#[]⟩, .int .i64 0, .bool false, .string ⟨#[]⟩, .bool false, .string ⟨#[]⟩, .bool false, .string ⟨#[]⟩, .bool false, .string ⟨#[]⟩], .bool false]) (by simp [results, Tryd.results13, go_sem, zeroAC, e0, e1, e2, e3, e4, e5, e6, e7, e8, e9, e10]) rfl ?_
  exact ⟨rfl, since_setRow hS2 (Nat.le_refl _) _⟩
end Go.Proofs.YtbgdljcgbhhfdaaDoor
