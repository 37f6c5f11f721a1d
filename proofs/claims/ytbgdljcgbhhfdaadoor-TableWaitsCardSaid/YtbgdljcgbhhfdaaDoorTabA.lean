/- Package table: a call's number. -/
import Derived.Test.YtbgdljcgbhhfdaaDoorCanR
import Derived.Test.YtbgdljcgbhhfdaaDoorHeldM
import Derived.Test.YtbgdljcgbhhfdaaDoorEq
namespace Go.Proofs.YtbgdljcgbhhfdaaDoor
open Go.RowKit Go.Maps Go.WideMaps

instance : DecidableEq Atm := fun a b => decidable_of_iff (eqA a b = true) eqA_iff
theorem vN_len {j : Nat} (h : j < 4) : (vN j).length ≤ maxLen := by
  have h1 : Lib.decDigits j = [UInt8.ofNat (48 + j)] := by rw [Lib.decDigits, dif_pos (by omega)]
  unfold vN
  rw [h1]
  unfold maxLen
  simp
theorem canT_fit {ns : List (List UInt8)} {t : Tm} (hn : ns.length ≤ 4) (ht : t.2.length ≤ maxLen) : (canT ns t).2.length ≤ maxLen := by
  unfold canT
  split
  · refine vN_len ?_
    cases h : posF ns t.2 0 with
    | none => decide
    | some j => have := (posF_lt h).2.1; show j < 4; omega
  · exact ht
theorem canA_fits {a : Atm} (h : FitsN a) : FitsN (canA a) := by
  obtain ⟨⟨h1, h2, h3⟩, h4, h5⟩ := h
  have hn : (namesA a true).length ≤ 4 := Nat.le_trans (nmK_len a (countA a)) (countA_le a)
  refine ⟨⟨h1, h2, fun t ht => ?_⟩, h4, h5⟩
  unfold canA partC argsL at ht
  simp only [List.mem_cons, List.not_mem_nil, or_false] at ht
  have k0 := h3 a.2.2.2.1 (by simp [argsL])
  have k1 := h3 a.2.2.2.2.1 (by simp [argsL])
  have k2 := h3 a.2.2.2.2.2.1 (by simp [argsL])
  have k3 := h3 a.2.2.2.2.2.2 (by simp [argsL])
  rcases ht with rfl | rfl | rfl | rfl <;> split <;> first | assumption | exact canT_fit hn (by assumption)
theorem akinj {P : List Atm} (hP : ∀ y ∈ P, FitsN y) {a : Atm} (ha : FitsN a) : ∀ x ∈ P, keyA x = keyA a → x = a := fun x hx h => keyA_inj (hP x hx) ha h
theorem alook_i {o : Oper} {x y : Operand} {ev : Operand → Value} {b n : Nat} {P : List Atm} (a_s a_p : List UInt8) (a_n : Int) (a_v0 a_v1 a_v2 a_v3 : Bool) (a_l0 a_l1 a_l2 a_l3 : List UInt8) (hP : ∀ y ∈ P, FitsN y) (hf : FitsN ((a_s, a_p, a_n, (a_v0, a_l0), (a_v1, a_l1), (a_v2, a_l2), (a_v3, a_l3)) : Atm)) (hd : P.Nodup) {r : Option Nat} (hr : posF P ((a_s, a_p, a_n, (a_v0, a_l0), (a_v1, a_l1), (a_v2, a_l2), (a_v3, a_l3)) : Atm) 0 = r) (ho : o.op = Op.lookup 59 x y true) (hx : ev x = .map (some b)) (hy : ev y = .agg #[.string ⟨a_s.toArray⟩, .string ⟨a_p.toArray⟩, .int .i64 a_n, .bool a_v0, .string ⟨a_l0.toArray⟩, .bool a_v1, .string ⟨a_l1.toArray⟩, .bool a_v2, .string ⟨a_l2.toArray⟩, .bool a_v3, .string ⟨a_l3.toArray⟩]) (W : World) (h : AIdx W b n P) :
    (execOp ev o).run Tryd.prog W = .ok (.value (.tuple #[.int .i64 (posV r), .bool r.isSome])) W := by
  have h1 := kidx_look h aklaw Tryd.underlying59 (fun _ => trivial) ((a_s, a_p, a_n, (a_v0, a_l0), (a_v1, a_l1), (a_v2, a_l2), (a_v3, a_l3)) : Atm) hd (akinj hP hf) (keyOf_atom a_s a_p a_n a_v0 a_v1 a_v2 a_v3 a_l0 a_l1 a_l2 a_l3 hf)
  rw [hr] at h1
  simp only [execOp, ho, hx, hy]
  go_simp
set_option maxHeartbeats 4000000 in
set_option maxRecDepth 100000 in
theorem place_any (g mp n : Nat) (P : List Atm) (a_s a_p : List UInt8) (a_n : Int) (a_v0 a_v1 a_v2 a_v3 : Bool) (a_l0 a_l1 a_l2 a_l3 : List UInt8) (w : World) (hg : At w g 0 #[.map (some mp)]) (hM : AIdx w mp n P) (hP : ∀ y ∈ P, FitsN y) (hf : FitsN ((a_s, a_p, a_n, (a_v0, a_l0), (a_v1, a_l1), (a_v2, a_l2), (a_v3, a_l3)) : Atm)) (hd : P.Nodup) :
    Calls Tryd.prog 28 #[.pointer (some ⟨g, 0, none⟩), .agg #[.string ⟨a_s.toArray⟩, .string ⟨a_p.toArray⟩, .int .i64 a_n, .bool a_v0, .string ⟨a_l0.toArray⟩, .bool a_v1, .string ⟨a_l1.toArray⟩, .bool a_v2, .string ⟨a_l2.toArray⟩, .bool a_v3, .string ⟨a_l3.toArray⟩]] w fun e w' => e = .returned (.tuple #[.int .i64 (posV (posF P (canA ((a_s, a_p, a_n, (a_v0, a_l0), (a_v1, a_l1), (a_v2, a_l2), (a_v3, a_l3)) : Atm)) 0)), .bool (posF P (canA ((a_s, a_p, a_n, (a_v0, a_l0), (a_v1, a_l1), (a_v2, a_l2), (a_v3, a_l3)) : Atm)) 0).isSome]) ∧ Since w w' := by
  have hS : Since w (w.alloc (.cells #[.string ⟨a_s.toArray⟩, .string ⟨a_p.toArray⟩, .int .i64 a_n, .bool a_v0, .string ⟨a_l0.toArray⟩, .bool a_v1, .string ⟨a_l1.toArray⟩, .bool a_v2, .string ⟨a_l2.toArray⟩, .bool a_v3, .string ⟨a_l3.toArray⟩] 34)) := (Since.refl w).alloc _
  have aA : At (w.alloc (.cells #[.string ⟨a_s.toArray⟩, .string ⟨a_p.toArray⟩, .int .i64 a_n, .bool a_v0, .string ⟨a_l0.toArray⟩, .bool a_v1, .string ⟨a_l1.toArray⟩, .bool a_v2, .string ⟨a_l2.toArray⟩, .bool a_v3, .string ⟨a_l3.toArray⟩] 34)) w.heap.size 0 #[.string ⟨a_s.toArray⟩, .string ⟨a_p.toArray⟩, .int .i64 a_n, .bool a_v0, .string ⟨a_l0.toArray⟩, .bool a_v1, .string ⟨a_l1.toArray⟩, .bool a_v2, .string ⟨a_l2.toArray⟩, .bool a_v3, .string ⟨a_l3.toArray⟩] := Cel.at (heap_alloc_new w _)
  have gA := hg.next hS
  have hMn := hM.next hS
  have hfc := canA_fits hf
  have HCA := Lib.hid (fun W => canon_any a_s a_p a_n a_v0 a_v1 a_v2 a_v3 a_l0 a_l1 a_l2 a_l3 W hf.1)
  have HP := Lib.hid hP
  have HD := Lib.hid hd
  obtain ⟨c, hc⟩ : ∃ c, Hid (c = canA ((a_s, a_p, a_n, (a_v0, a_l0), (a_v1, a_l1), (a_v2, a_l2), (a_v3, a_l3)) : Atm)) := ⟨_, rfl⟩
  rw [← hc.out] at HCA hfc ⊢
  obtain ⟨c_s, c_p, c_n, ⟨c_v0, c_l0⟩, ⟨c_v1, c_l1⟩, ⟨c_v2, c_l2⟩, ⟨c_v3, c_l3⟩⟩ := c
  have HFC := Lib.hid hfc
  obtain ⟨r, hr⟩ : ∃ r, Hid (posF P ((c_s, c_p, c_n, (c_v0, c_l0), (c_v1, c_l1), (c_v2, c_l2), (c_v3, c_l3)) : Atm) 0 = r) := ⟨_, rfl⟩
  rw [hr.out]
  clear hg hM hP hd hfc hc hf
  go_enter Tryd.func28, Tryd.ntmps28
  go_upto_region 1 with (fail)
  generalize hw1 : w.alloc (.cells #[.string ⟨a_s.toArray⟩, .string ⟨a_p.toArray⟩, .int .i64 a_n, .bool a_v0, .string ⟨a_l0.toArray⟩, .bool a_v1, .string ⟨a_l1.toArray⟩, .bool a_v2, .string ⟨a_l2.toArray⟩, .bool a_v3, .string ⟨a_l3.toArray⟩] 34) = w1 at *
  clear hw1
  replace hS := hS.trans ((Since.refl w1).drew)
  replace gA := gA.next ((Since.refl w1).drew)
  replace aA := aA.next ((Since.refl w1).drew)
  replace hMn := hMn.next ((Since.refl w1).drew)
  refine hx_begin (S := fun W => (Since w W) ∧ (At W g 0 #[.map (some mp)]) ∧ (At W w.heap.size 0 #[.string ⟨a_s.toArray⟩, .string ⟨a_p.toArray⟩, .int .i64 a_n, .bool a_v0, .string ⟨a_l0.toArray⟩, .bool a_v1, .string ⟨a_l1.toArray⟩, .bool a_v2, .string ⟨a_l2.toArray⟩, .bool a_v3, .string ⟨a_l3.toArray⟩]) ∧ (AIdx W mp n P)) (by kernel_rfl) ⟨hS, gA, aA, hMn⟩ (by kernel_rfl) (fun _ _ _ _ _ h => h) (fun hns hQ => ?_)
  refine hx_take (i := 0) (oi := _) (v := .pointer (some ⟨g, 0, none⟩)) rfl rfl hns (by kernel_rfl) (by kernel_rfl) hQ (by kernel_rfl) (fun _ _ => by kernel_rfl) ⟨hS, gA, aA, hMn⟩ ?_
  refine hx_take (i := 1) (oi := _) (v := .pointer (some ⟨g, 0, none⟩)) rfl rfl hns (by kernel_rfl) (by kernel_rfl) hQ (by kernel_rfl) (fun _ _ => by kernel_rfl) ⟨hS, gA, aA, hMn⟩ ?_
  refine hx_take (i := 2) (oi := _) (v := .pointer (some ⟨g, 0, none⟩)) rfl rfl hns (by kernel_rfl) (by kernel_rfl) hQ (by kernel_rfl) (fun _ _ => by kernel_rfl) ⟨hS, gA, aA, hMn⟩ ?_
  refine hx_take (i := 3) (oi := _) (v := .map (some mp)) rfl rfl hns (by kernel_rfl) (by kernel_rfl) hQ (by kernel_rfl) (fun W hW => ld_one rfl (by kernel_rfl) (by kernel_rfl) W (hW.2.1 0 _ rfl)) ⟨hS, gA, aA, hMn⟩ ?_
  refine hx_take (i := 4) (oi := _) (v := .agg #[.string ⟨a_s.toArray⟩, .string ⟨a_p.toArray⟩, .int .i64 a_n, .bool a_v0, .string ⟨a_l0.toArray⟩, .bool a_v1, .string ⟨a_l1.toArray⟩, .bool a_v2, .string ⟨a_l2.toArray⟩, .bool a_v3, .string ⟨a_l3.toArray⟩]) rfl rfl hns (by kernel_rfl) (by kernel_rfl) hQ (by kernel_rfl) (fun W hW => ld_at rfl (by kernel_rfl) (by kernel_rfl) (by kernel_rfl) W (hW.2.2.1)) ⟨hS, gA, aA, hMn⟩ ?_
  refine hx_call (i := 5) (oi := _) 29 #[.agg #[.string ⟨a_s.toArray⟩, .string ⟨a_p.toArray⟩, .int .i64 a_n, .bool a_v0, .string ⟨a_l0.toArray⟩, .bool a_v1, .string ⟨a_l1.toArray⟩, .bool a_v2, .string ⟨a_l2.toArray⟩, .bool a_v3, .string ⟨a_l3.toArray⟩]] rfl rfl (by kernel_rfl) (by kernel_rfl) (by kernel_rfl) (HCA.out _) ?_
  rintro e wx61 ⟨rfl, hb⟩
  replace hS := hS.trans hb
  replace gA := gA.next hb
  replace aA := aA.next hb
  replace hMn := hMn.next hb
  clear hb
  refine ⟨_, rfl, ⟨hS, gA, aA, hMn⟩, ?_⟩
  refine hx_take (i := 6) (oi := _) (v := .tuple #[.int .i64 (posV r), .bool r.isSome]) rfl rfl hns (by kernel_rfl) (by kernel_rfl) hQ (by kernel_rfl) (fun W hW => alook_i c_s c_p c_n c_v0 c_v1 c_v2 c_v3 c_l0 c_l1 c_l2 c_l3 HP.out HFC.out HD.out hr.out rfl (by kernel_rfl) (by kernel_rfl) W (hW.2.2.2)) ⟨hS, gA, aA, hMn⟩ ?_
  refine hx_take (i := 7) (oi := _) (v := .tuple #[.int .i64 (posV r), .bool r.isSome]) rfl rfl hns (by kernel_rfl) (by kernel_rfl) hQ (by kernel_rfl) (fun _ _ => by kernel_rfl) ⟨hS, gA, aA, hMn⟩ ?_
  refine hx_take (i := 8) (oi := _) (v := .int .i64 (posV r)) rfl rfl hns (by kernel_rfl) (by kernel_rfl) hQ (by kernel_rfl) (fun _ _ => by kernel_rfl) ⟨hS, gA, aA, hMn⟩ ?_
  refine hx_take (i := 9) (oi := _) (v := .bool r.isSome) rfl rfl hns (by kernel_rfl) (by kernel_rfl) hQ (by kernel_rfl) (fun _ _ => by kernel_rfl) ⟨hS, gA, aA, hMn⟩ ?_
  refine hx_take (i := 10) (oi := _) (v := .int .i64 (posV r)) rfl rfl hns (by kernel_rfl) (by kernel_rfl) hQ (by kernel_rfl) (fun _ _ => by kernel_rfl) ⟨hS, gA, aA, hMn⟩ ?_
  refine hx_take (i := 11) (oi := _) (v := .bool r.isSome) rfl rfl hns (by kernel_rfl) (by kernel_rfl) hQ (by kernel_rfl) (fun _ _ => by kernel_rfl) ⟨hS, gA, aA, hMn⟩ ?_
  refine wpAnyH_done (by kernel_rfl) ?_ _
  clear hns hQ
  simp only [List.set_cons_zero, List.set_cons_succ]
  go_wp2_with fail
  go_ret2
  exact ⟨rfl, hS⟩
end Go.Proofs.YtbgdljcgbhhfdaaDoor
