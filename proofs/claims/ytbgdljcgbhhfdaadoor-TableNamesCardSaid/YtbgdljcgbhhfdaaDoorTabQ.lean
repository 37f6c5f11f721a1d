/- Package table: Add. -/
import Derived.Test.YtbgdljcgbhhfdaaDoorTabR
import Derived.Test.YtbgdljcgbhhfdaaDoorMaB
import Derived.Test.YtbgdljcgbhhfdaaDoorTabP
namespace Go.Proofs.YtbgdljcgbhhfdaaDoor
open Go.RowKit Go.Maps Go.WideMaps

/-- May an atom be an answer of a call? -/
def addOK (c a : Atm) : Bool := (checkA a == 0) && (extH [] c a).isSome
theorem match_flag (c_s c_p : List UInt8) (c_n : Int) (c_v0 c_v1 c_v2 c_v3 : Bool) (c_l0 c_l1 c_l2 c_l3 : List UInt8) (a_s a_p : List UInt8) (a_n : Int) (a_v0 a_v1 a_v2 a_v3 : Bool) (a_l0 a_l1 a_l2 a_l3 : List UInt8) (kc : checkA ((c_s, c_p, c_n, (c_v0, c_l0), (c_v1, c_l1), (c_v2, c_l2), (c_v3, c_l3)) : Atm) = 0) (hf : FitsA ((a_s, a_p, a_n, (a_v0, a_l0), (a_v1, a_l1), (a_v2, a_l2), (a_v3, a_l3)) : Atm)) {r : Bool} (hr : (extH [] ((c_s, c_p, c_n, (c_v0, c_l0), (c_v1, c_l1), (c_v2, c_l2), (c_v3, c_l3)) : Atm) ((a_s, a_p, a_n, (a_v0, a_l0), (a_v1, a_l1), (a_v2, a_l2), (a_v3, a_l3)) : Atm)).isSome = r) (w : World) (hE : Env w) :
    Calls Tryd.prog 36 #[.agg #[.string ⟨c_s.toArray⟩, .string ⟨c_p.toArray⟩, .int .i64 c_n, .bool c_v0, .string ⟨c_l0.toArray⟩, .bool c_v1, .string ⟨c_l1.toArray⟩, .bool c_v2, .string ⟨c_l2.toArray⟩, .bool c_v3, .string ⟨c_l3.toArray⟩], .agg #[.string ⟨a_s.toArray⟩, .string ⟨a_p.toArray⟩, .int .i64 a_n, .bool a_v0, .string ⟨a_l0.toArray⟩, .bool a_v1, .string ⟨a_l1.toArray⟩, .bool a_v2, .string ⟨a_l2.toArray⟩, .bool a_v3, .string ⟨a_l3.toArray⟩]] w fun e w' => ∃ v, e = .returned (.tuple #[v, .bool r]) ∧ Since w w' := by
  refine (mmatch_all c_s c_p c_n c_v0 c_v1 c_v2 c_v3 c_l0 c_l1 c_l2 c_l3 a_s a_p a_n a_v0 a_v1 a_v2 a_v3 a_l0 a_l1 a_l2 a_l3 kc w hE hf).mono ?_
  rintro e w' ⟨v, b, rfl, hb, hm⟩
  refine ⟨v, ?_, hb⟩
  have e : b = r := by
    rw [← hr]
    cases h : extH [] ((c_s, c_p, c_n, (c_v0, c_l0), (c_v1, c_l1), (c_v2, c_l2), (c_v3, c_l3)) : Atm) ((a_s, a_p, a_n, (a_v0, a_l0), (a_v1, a_l1), (a_v2, a_l2), (a_v3, a_l3)) : Atm) with
    | none => rw [h] at hm; exact hm.1
    | some m => rw [h] at hm; exact hm.1
  rw [e]
set_option maxRecDepth 100000 in
theorem st_atms {o : Oper} {x y : Operand} {ev : Operand → Value} {g k : Nat} {a : Option Addr} {n c : Nat} {cs : Array Value} {T : TypeId} (ho : o.op = Op.store 22 x y) (hx : ev x = .pointer (some ⟨g, k, none⟩)) (hy : ev y = .slice a n c) (W : World) (h : Cel W g cs T) (hk : (cs[k]?).isSome = true) :
    (execOp ev o).run Tryd.prog W = .ok .skip (W.setCell ⟨g, k, none⟩ (.slice a n c)) := by
  obtain ⟨u, hu⟩ := Option.isSome_iff_exists.1 hk
  have h1 : W.cell? ⟨g, k, none⟩ = some u := (h.cell k).trans hu
  have h2 := h.free k
  simp only [execOp, ho]
  go_simp
theorem at_half {W : World} {g : Nat} {c : TCall} {av wv : Value} {th : Nat} {T : TypeId} (h : Cel W g (callC c av th wv) T) : At W g 0 (atmC c.1) := fun j u hu => by
  rw [Nat.zero_add, h.cell j]
  exact callC_atm hu
/-- The facts of call i that a walk reads. -/
structure CallF (W : World) (qb th : Nat) (aa : Option Addr) (an ac : Nat) (c : Atm) : Prop where
  atom : At W qb 0 (atmC c)
  cells : At W qb 11 #[.slice aa an ac, .map (some th)]
theorem CallF.next {W W' : World} {qb th : Nat} {aa : Option Addr} {an ac : Nat} {c : Atm} (h : CallF W qb th aa an ac c) (hs : Since W W') : CallF W' qb th aa an ac c := ⟨h.atom.next hs, h.cells.next hs⟩
set_option maxHeartbeats 1000000 in
theorem tadd_no {B g mp np : Nat} {cv : Value} {R : List CallP} {S : List TCall} (i : Int) (a_s a_p : List UInt8) (a_n : Int) (a_v0 a_v1 a_v2 a_v3 : Bool) (a_l0 a_l1 a_l2 a_l3 : List UInt8) (w : World) (h : TabAt w B g mp np cv R S) (hi : i < 0 ∨ (S.length : Int) ≤ i) :
    Calls Tryd.prog 21 #[.pointer (some ⟨g, 0, none⟩), .int .i64 i, .agg #[.string ⟨a_s.toArray⟩, .string ⟨a_p.toArray⟩, .int .i64 a_n, .bool a_v0, .string ⟨a_l0.toArray⟩, .bool a_v1, .string ⟨a_l1.toArray⟩, .bool a_v2, .string ⟨a_l2.toArray⟩, .bool a_v3, .string ⟨a_l3.toArray⟩]] w fun e w' => e = .returned (.tuple #[.bool false, .int .i64 13]) ∧ Since w w' := by
  have hS : Since w (w.alloc (.cells #[.string ⟨a_s.toArray⟩, .string ⟨a_p.toArray⟩, .int .i64 a_n, .bool a_v0, .string ⟨a_l0.toArray⟩, .bool a_v1, .string ⟨a_l1.toArray⟩, .bool a_v2, .string ⟨a_l2.toArray⟩, .bool a_v3, .string ⟨a_l3.toArray⟩] 34)) := (Since.refl w).alloc _
  have HAT := Lib.hid (tat_no i _ (h.next hS) hi)
  clear h hi
  go_enter Tryd.func21, Tryd.ntmps21
  go_wp2_with fail
  refine HAT.out.mono ?_
  rintro e w2 ⟨rfl, hb2⟩
  go_wp2_with fail
  go_ret2
  exact ⟨rfl, hS.trans hb2⟩
set_option maxHeartbeats 4000000 in
set_option maxRecDepth 100000 in
theorem tadd_bad1 {B g mp np : Nat} {cv : Value} {R : List CallP} {S : List TCall} (i : Nat) (a_s a_p : List UInt8) (a_n : Int) (a_v0 a_v1 a_v2 a_v3 : Bool) (a_l0 a_l1 a_l2 a_l3 : List UInt8) (w : World) (h : TabAt w B g mp np cv R S) (hi : i < S.length) (hf : FitsN ((a_s, a_p, a_n, (a_v0, a_l0), (a_v1, a_l1), (a_v2, a_l2), (a_v3, a_l3)) : Atm)) (hE : Env w) (hkc : checkA (S[i]).1 = 0) (hx : (extH [] (S[i]).1 ((a_s, a_p, a_n, (a_v0, a_l0), (a_v1, a_l1), (a_v2, a_l2), (a_v3, a_l3)) : Atm)).isSome = false) :
    Calls Tryd.prog 21 #[.pointer (some ⟨g, 0, none⟩), .int .i64 (i : Int), .agg #[.string ⟨a_s.toArray⟩, .string ⟨a_p.toArray⟩, .int .i64 a_n, .bool a_v0, .string ⟨a_l0.toArray⟩, .bool a_v1, .string ⟨a_l1.toArray⟩, .bool a_v2, .string ⟨a_l2.toArray⟩, .bool a_v3, .string ⟨a_l3.toArray⟩]] w fun e w' => e = .returned (.tuple #[.bool false, .int .i64 2]) ∧ Since w w' := by
  have hS : Since w (w.alloc (.cells #[.string ⟨a_s.toArray⟩, .string ⟨a_p.toArray⟩, .int .i64 a_n, .bool a_v0, .string ⟨a_l0.toArray⟩, .bool a_v1, .string ⟨a_l1.toArray⟩, .bool a_v2, .string ⟨a_l2.toArray⟩, .bool a_v3, .string ⟨a_l3.toArray⟩] 34)) := (Since.refl w).alloc _
  have aA : At (w.alloc (.cells #[.string ⟨a_s.toArray⟩, .string ⟨a_p.toArray⟩, .int .i64 a_n, .bool a_v0, .string ⟨a_l0.toArray⟩, .bool a_v1, .string ⟨a_l1.toArray⟩, .bool a_v2, .string ⟨a_l2.toArray⟩, .bool a_v3, .string ⟨a_l3.toArray⟩] 34)) w.heap.size 0 #[.string ⟨a_s.toArray⟩, .string ⟨a_p.toArray⟩, .int .i64 a_n, .bool a_v0, .string ⟨a_l0.toArray⟩, .bool a_v1, .string ⟨a_l1.toArray⟩, .bool a_v2, .string ⟨a_l2.toArray⟩, .bool a_v3, .string ⟨a_l3.toArray⟩] := Cel.at (heap_alloc_new w _)
  have aB : Box (w.alloc (.cells #[.string ⟨a_s.toArray⟩, .string ⟨a_p.toArray⟩, .int .i64 a_n, .bool a_v0, .string ⟨a_l0.toArray⟩, .bool a_v1, .string ⟨a_l1.toArray⟩, .bool a_v2, .string ⟨a_l2.toArray⟩, .bool a_v3, .string ⟨a_l3.toArray⟩] 34)) w.heap.size ((a_s, a_p, a_n, (a_v0, a_l0), (a_v1, a_l1), (a_v2, a_l2), (a_v3, a_l3)) : Atm) := box_new w ((a_s, a_p, a_n, (a_v0, a_l0), (a_v1, a_l1), (a_v2, a_l2), (a_v3, a_l3)) : Atm) _
  have hi2 : i < R.length := by rw [h.len]; exact hi
  have HAT := Lib.hid (tat_yes i _ (h.next hS) hi2)
  have hC := h.call i hi2 hi
  have HXS := Lib.hid hx
  obtain ⟨c, hc⟩ : ∃ c, Hid (c = S[i]) := ⟨S[i], rfl⟩
  obtain ⟨q, hq⟩ : ∃ q, Hid (q = R[i]) := ⟨R[i], rfl⟩
  rw [← hq.out] at HAT
  rw [← hc.out] at HXS hkc
  have hC2 : CallAt w B q c := by rw [hq.out, hc.out]; exact hC
  clear hC
  have hC := hC2
  clear hC2
  clear h hi hi2 hc hq hx
  obtain ⟨qb, qt, qn, qa, qw⟩ := q
  obtain ⟨⟨c_s, c_p, c_n, ⟨c_v0, c_l0⟩, ⟨c_v1, c_l1⟩, ⟨c_v2, c_l2⟩, ⟨c_v3, c_l3⟩⟩, cs, cw⟩ := c
  simp only at HAT hkc HXS
  have hans := hC.ans
  simp only at hans
  obtain ⟨aa, ac, rfl⟩ : ∃ a k, qa = .slice a cs.length k := own_slice hans
  have hcl : Cel w qb (callC (((c_s, c_p, c_n, (c_v0, c_l0), (c_v1, c_l1), (c_v2, c_l2), (c_v3, c_l3)) : Atm), cs, cw) (.slice aa cs.length ac) qt qw) 68 := hC.cel
  have cA : At w qb 0 #[.string ⟨c_s.toArray⟩, .string ⟨c_p.toArray⟩, .int .i64 c_n, .bool c_v0, .string ⟨c_l0.toArray⟩, .bool c_v1, .string ⟨c_l1.toArray⟩, .bool c_v2, .string ⟨c_l2.toArray⟩, .bool c_v3, .string ⟨c_l3.toArray⟩] := at_half hcl
  have HE := Lib.hid hE
  have HMA := Lib.hid (fun W hE => match_flag c_s c_p c_n c_v0 c_v1 c_v2 c_v3 c_l0 c_l1 c_l2 c_l3 a_s a_p a_n a_v0 a_v1 a_v2 a_v3 a_l0 a_l1 a_l2 a_l3 hkc hf.1 HXS.out W hE)
  clear hC hans hcl hE hkc
  go_enter Tryd.func21, Tryd.ntmps21
  go_wp2_with fail
  refine HAT.out.mono ?_
  rintro e w2 ⟨rfl, hb⟩
  replace hS := hS.trans hb
  replace aA := aA.next hb
  replace aB := aB.next hb
  replace cA := cA.next hS
  clear HAT hb
  go_wp2_with fail
  replace hS := hS.trans ((Since.refl w2).drew)
  replace cA := cA.next ((Since.refl w2).drew)
  replace aA := aA.next ((Since.refl w2).drew)
  replace aB := aB.next ((Since.refl w2).drew)
  refine hx_begin (S := fun W => (Since w W) ∧ (At W qb 0 #[.string ⟨c_s.toArray⟩, .string ⟨c_p.toArray⟩, .int .i64 c_n, .bool c_v0, .string ⟨c_l0.toArray⟩, .bool c_v1, .string ⟨c_l1.toArray⟩, .bool c_v2, .string ⟨c_l2.toArray⟩, .bool c_v3, .string ⟨c_l3.toArray⟩]) ∧ (At W w.heap.size 0 #[.string ⟨a_s.toArray⟩, .string ⟨a_p.toArray⟩, .int .i64 a_n, .bool a_v0, .string ⟨a_l0.toArray⟩, .bool a_v1, .string ⟨a_l1.toArray⟩, .bool a_v2, .string ⟨a_l2.toArray⟩, .bool a_v3, .string ⟨a_l3.toArray⟩]) ∧ (Box W w.heap.size ((a_s, a_p, a_n, (a_v0, a_l0), (a_v1, a_l1), (a_v2, a_l2), (a_v3, a_l3)) : Atm))) (by kernel_rfl) ⟨hS, cA, aA, aB⟩ (by kernel_rfl) (fun _ _ _ _ _ h => h) (fun hns hQ => ?_)
  refine hx_take (i := 0) (oi := _) (v := .pointer (some ⟨qb, 0, none⟩)) rfl rfl hns (by kernel_rfl) (by kernel_rfl) hQ (by kernel_rfl) (fun _ _ => by kernel_rfl) ⟨hS, cA, aA, aB⟩ ?_
  refine hx_take (i := 1) (oi := _) (v := .pointer (some ⟨qb, 0, none⟩)) rfl rfl hns (by kernel_rfl) (by kernel_rfl) hQ (by kernel_rfl) (fun _ _ => by kernel_rfl) ⟨hS, cA, aA, aB⟩ ?_
  refine hx_take (i := 2) (oi := _) (v := .pointer (some ⟨qb, 0, none⟩)) rfl rfl hns (by kernel_rfl) (by kernel_rfl) hQ (by kernel_rfl) (fun _ _ => by kernel_rfl) ⟨hS, cA, aA, aB⟩ ?_
  refine hx_take (i := 3) (oi := _) (v := .agg #[.string ⟨c_s.toArray⟩, .string ⟨c_p.toArray⟩, .int .i64 c_n, .bool c_v0, .string ⟨c_l0.toArray⟩, .bool c_v1, .string ⟨c_l1.toArray⟩, .bool c_v2, .string ⟨c_l2.toArray⟩, .bool c_v3, .string ⟨c_l3.toArray⟩]) rfl rfl hns (by kernel_rfl) (by kernel_rfl) hQ (by kernel_rfl) (fun W hW => ld_at rfl (by kernel_rfl) (by kernel_rfl) (by kernel_rfl) W (hW.2.1)) ⟨hS, cA, aA, aB⟩ ?_
  refine hx_take (i := 4) (oi := _) (v := .agg #[.string ⟨a_s.toArray⟩, .string ⟨a_p.toArray⟩, .int .i64 a_n, .bool a_v0, .string ⟨a_l0.toArray⟩, .bool a_v1, .string ⟨a_l1.toArray⟩, .bool a_v2, .string ⟨a_l2.toArray⟩, .bool a_v3, .string ⟨a_l3.toArray⟩]) rfl rfl hns (by kernel_rfl) (by kernel_rfl) hQ (by kernel_rfl) (fun W hW => ld_at rfl (by kernel_rfl) (by kernel_rfl) (by kernel_rfl) W (hW.2.2.1)) ⟨hS, cA, aA, aB⟩ ?_
  refine hx_call (i := 5) (oi := _) 36 #[.agg #[.string ⟨c_s.toArray⟩, .string ⟨c_p.toArray⟩, .int .i64 c_n, .bool c_v0, .string ⟨c_l0.toArray⟩, .bool c_v1, .string ⟨c_l1.toArray⟩, .bool c_v2, .string ⟨c_l2.toArray⟩, .bool c_v3, .string ⟨c_l3.toArray⟩], .agg #[.string ⟨a_s.toArray⟩, .string ⟨a_p.toArray⟩, .int .i64 a_n, .bool a_v0, .string ⟨a_l0.toArray⟩, .bool a_v1, .string ⟨a_l1.toArray⟩, .bool a_v2, .string ⟨a_l2.toArray⟩, .bool a_v3, .string ⟨a_l3.toArray⟩]] rfl rfl (by kernel_rfl) (by kernel_rfl) (by kernel_rfl) (HMA.out _ (HE.out.next hS)) ?_
  rintro e wx61 ⟨mv, rfl, hb⟩
  replace hS := hS.trans hb
  replace cA := cA.next hb
  replace aA := aA.next hb
  replace aB := aB.next hb
  clear hb
  refine ⟨_, rfl, ⟨hS, cA, aA, aB⟩, ?_⟩
  refine hx_take (i := 6) (oi := _) (v := .tuple #[mv, .bool false]) rfl rfl hns (by kernel_rfl) (by kernel_rfl) hQ (by kernel_rfl) (fun _ _ => by kernel_rfl) ⟨hS, cA, aA, aB⟩ ?_
  refine hx_take (i := 7) (oi := _) (v := mv) rfl rfl hns (by kernel_rfl) (by kernel_rfl) hQ (by kernel_rfl) (fun _ _ => by kernel_rfl) ⟨hS, cA, aA, aB⟩ ?_
  refine hx_take (i := 8) (oi := _) (v := .bool false) rfl rfl hns (by kernel_rfl) (by kernel_rfl) hQ (by kernel_rfl) (fun _ _ => by kernel_rfl) ⟨hS, cA, aA, aB⟩ ?_
  refine hx_take (i := 9) (oi := _) (v := mv) rfl rfl hns (by kernel_rfl) (by kernel_rfl) hQ (by kernel_rfl) (fun _ _ => by kernel_rfl) ⟨hS, cA, aA, aB⟩ ?_
  refine hx_take (i := 10) (oi := _) (v := .bool false) rfl rfl hns (by kernel_rfl) (by kernel_rfl) hQ (by kernel_rfl) (fun _ _ => by kernel_rfl) ⟨hS, cA, aA, aB⟩ ?_
  refine wpAnyH_done (by kernel_rfl) ?_ _
  clear hns hQ
  simp only [List.set_cons_zero, List.set_cons_succ]
  go_wp2_with fail
  go_ret2
  exact ⟨rfl, hS⟩
set_option maxHeartbeats 4000000 in
set_option maxRecDepth 100000 in
theorem tadd_bad2 {B g mp np : Nat} {cv : Value} {R : List CallP} {S : List TCall} (i : Nat) (a_s a_p : List UInt8) (a_n : Int) (a_v0 a_v1 a_v2 a_v3 : Bool) (a_l0 a_l1 a_l2 a_l3 : List UInt8) (w : World) (h : TabAt w B g mp np cv R S) (hi : i < S.length) (hf : FitsN ((a_s, a_p, a_n, (a_v0, a_l0), (a_v1, a_l1), (a_v2, a_l2), (a_v3, a_l3)) : Atm)) (hE : Env w) (hkc : checkA (S[i]).1 = 0) (hx : (extH [] (S[i]).1 ((a_s, a_p, a_n, (a_v0, a_l0), (a_v1, a_l1), (a_v2, a_l2), (a_v3, a_l3)) : Atm)).isSome = true) (hk : ¬ checkA ((a_s, a_p, a_n, (a_v0, a_l0), (a_v1, a_l1), (a_v2, a_l2), (a_v3, a_l3)) : Atm) = 0) :
    Calls Tryd.prog 21 #[.pointer (some ⟨g, 0, none⟩), .int .i64 (i : Int), .agg #[.string ⟨a_s.toArray⟩, .string ⟨a_p.toArray⟩, .int .i64 a_n, .bool a_v0, .string ⟨a_l0.toArray⟩, .bool a_v1, .string ⟨a_l1.toArray⟩, .bool a_v2, .string ⟨a_l2.toArray⟩, .bool a_v3, .string ⟨a_l3.toArray⟩]] w fun e w' => e = .returned (.tuple #[.bool false, .int .i64 2]) ∧ Since w w' := by
  have hS : Since w (w.alloc (.cells #[.string ⟨a_s.toArray⟩, .string ⟨a_p.toArray⟩, .int .i64 a_n, .bool a_v0, .string ⟨a_l0.toArray⟩, .bool a_v1, .string ⟨a_l1.toArray⟩, .bool a_v2, .string ⟨a_l2.toArray⟩, .bool a_v3, .string ⟨a_l3.toArray⟩] 34)) := (Since.refl w).alloc _
  have aA : At (w.alloc (.cells #[.string ⟨a_s.toArray⟩, .string ⟨a_p.toArray⟩, .int .i64 a_n, .bool a_v0, .string ⟨a_l0.toArray⟩, .bool a_v1, .string ⟨a_l1.toArray⟩, .bool a_v2, .string ⟨a_l2.toArray⟩, .bool a_v3, .string ⟨a_l3.toArray⟩] 34)) w.heap.size 0 #[.string ⟨a_s.toArray⟩, .string ⟨a_p.toArray⟩, .int .i64 a_n, .bool a_v0, .string ⟨a_l0.toArray⟩, .bool a_v1, .string ⟨a_l1.toArray⟩, .bool a_v2, .string ⟨a_l2.toArray⟩, .bool a_v3, .string ⟨a_l3.toArray⟩] := Cel.at (heap_alloc_new w _)
  have aB : Box (w.alloc (.cells #[.string ⟨a_s.toArray⟩, .string ⟨a_p.toArray⟩, .int .i64 a_n, .bool a_v0, .string ⟨a_l0.toArray⟩, .bool a_v1, .string ⟨a_l1.toArray⟩, .bool a_v2, .string ⟨a_l2.toArray⟩, .bool a_v3, .string ⟨a_l3.toArray⟩] 34)) w.heap.size ((a_s, a_p, a_n, (a_v0, a_l0), (a_v1, a_l1), (a_v2, a_l2), (a_v3, a_l3)) : Atm) := box_new w ((a_s, a_p, a_n, (a_v0, a_l0), (a_v1, a_l1), (a_v2, a_l2), (a_v3, a_l3)) : Atm) _
  have hi2 : i < R.length := by rw [h.len]; exact hi
  have HAT := Lib.hid (tat_yes i _ (h.next hS) hi2)
  have hC := h.call i hi2 hi
  have HXS := Lib.hid hx
  obtain ⟨c, hc⟩ : ∃ c, Hid (c = S[i]) := ⟨S[i], rfl⟩
  obtain ⟨q, hq⟩ : ∃ q, Hid (q = R[i]) := ⟨R[i], rfl⟩
  rw [← hq.out] at HAT
  rw [← hc.out] at HXS hkc
  have hC2 : CallAt w B q c := by rw [hq.out, hc.out]; exact hC
  clear hC
  have hC := hC2
  clear hC2
  clear h hi hi2 hc hq hx
  obtain ⟨qb, qt, qn, qa, qw⟩ := q
  obtain ⟨⟨c_s, c_p, c_n, ⟨c_v0, c_l0⟩, ⟨c_v1, c_l1⟩, ⟨c_v2, c_l2⟩, ⟨c_v3, c_l3⟩⟩, cs, cw⟩ := c
  simp only at HAT hkc HXS
  have hans := hC.ans
  simp only at hans
  obtain ⟨aa, ac, rfl⟩ : ∃ a k, qa = .slice a cs.length k := own_slice hans
  have hcl : Cel w qb (callC (((c_s, c_p, c_n, (c_v0, c_l0), (c_v1, c_l1), (c_v2, c_l2), (c_v3, c_l3)) : Atm), cs, cw) (.slice aa cs.length ac) qt qw) 68 := hC.cel
  have cA : At w qb 0 #[.string ⟨c_s.toArray⟩, .string ⟨c_p.toArray⟩, .int .i64 c_n, .bool c_v0, .string ⟨c_l0.toArray⟩, .bool c_v1, .string ⟨c_l1.toArray⟩, .bool c_v2, .string ⟨c_l2.toArray⟩, .bool c_v3, .string ⟨c_l3.toArray⟩] := at_half hcl
  have HE := Lib.hid hE
  have HMA := Lib.hid (fun W hE => match_flag c_s c_p c_n c_v0 c_v1 c_v2 c_v3 c_l0 c_l1 c_l2 c_l3 a_s a_p a_n a_v0 a_v1 a_v2 a_v3 a_l0 a_l1 a_l2 a_l3 hkc hf.1 HXS.out W hE)
  have HCK := Lib.hid (fun W (hE : Env W) => check_any a_s a_p a_n a_v0 a_v1 a_v2 a_v3 a_l0 a_l1 a_l2 a_l3 W hf.1 hE)
  obtain ⟨k, hk2⟩ : ∃ k, Hid (k = checkA ((a_s, a_p, a_n, (a_v0, a_l0), (a_v1, a_l1), (a_v2, a_l2), (a_v3, a_l3)) : Atm)) := ⟨_, rfl⟩
  rw [← hk2.out] at HCK hk
  have hk3 : (k != (0 : Int)) = true := by simpa using hk
  clear hC hans hcl hE hkc hk2
  go_enter Tryd.func21, Tryd.ntmps21
  go_wp2_with fail
  refine HAT.out.mono ?_
  rintro e w2 ⟨rfl, hb⟩
  replace hS := hS.trans hb
  replace aA := aA.next hb
  replace aB := aB.next hb
  replace cA := cA.next hS
  clear HAT hb
  go_wp2_with fail
  replace hS := hS.trans ((Since.refl w2).drew)
  replace cA := cA.next ((Since.refl w2).drew)
  replace aA := aA.next ((Since.refl w2).drew)
  replace aB := aB.next ((Since.refl w2).drew)
  refine hx_begin (S := fun W => (Since w W) ∧ (At W qb 0 #[.string ⟨c_s.toArray⟩, .string ⟨c_p.toArray⟩, .int .i64 c_n, .bool c_v0, .string ⟨c_l0.toArray⟩, .bool c_v1, .string ⟨c_l1.toArray⟩, .bool c_v2, .string ⟨c_l2.toArray⟩, .bool c_v3, .string ⟨c_l3.toArray⟩]) ∧ (At W w.heap.size 0 #[.string ⟨a_s.toArray⟩, .string ⟨a_p.toArray⟩, .int .i64 a_n, .bool a_v0, .string ⟨a_l0.toArray⟩, .bool a_v1, .string ⟨a_l1.toArray⟩, .bool a_v2, .string ⟨a_l2.toArray⟩, .bool a_v3, .string ⟨a_l3.toArray⟩]) ∧ (Box W w.heap.size ((a_s, a_p, a_n, (a_v0, a_l0), (a_v1, a_l1), (a_v2, a_l2), (a_v3, a_l3)) : Atm))) (by kernel_rfl) ⟨hS, cA, aA, aB⟩ (by kernel_rfl) (fun _ _ _ _ _ h => h) (fun hns hQ => ?_)
  refine hx_take (i := 0) (oi := _) (v := .pointer (some ⟨qb, 0, none⟩)) rfl rfl hns (by kernel_rfl) (by kernel_rfl) hQ (by kernel_rfl) (fun _ _ => by kernel_rfl) ⟨hS, cA, aA, aB⟩ ?_
  refine hx_take (i := 1) (oi := _) (v := .pointer (some ⟨qb, 0, none⟩)) rfl rfl hns (by kernel_rfl) (by kernel_rfl) hQ (by kernel_rfl) (fun _ _ => by kernel_rfl) ⟨hS, cA, aA, aB⟩ ?_
  refine hx_take (i := 2) (oi := _) (v := .pointer (some ⟨qb, 0, none⟩)) rfl rfl hns (by kernel_rfl) (by kernel_rfl) hQ (by kernel_rfl) (fun _ _ => by kernel_rfl) ⟨hS, cA, aA, aB⟩ ?_
  refine hx_take (i := 3) (oi := _) (v := .agg #[.string ⟨c_s.toArray⟩, .string ⟨c_p.toArray⟩, .int .i64 c_n, .bool c_v0, .string ⟨c_l0.toArray⟩, .bool c_v1, .string ⟨c_l1.toArray⟩, .bool c_v2, .string ⟨c_l2.toArray⟩, .bool c_v3, .string ⟨c_l3.toArray⟩]) rfl rfl hns (by kernel_rfl) (by kernel_rfl) hQ (by kernel_rfl) (fun W hW => ld_at rfl (by kernel_rfl) (by kernel_rfl) (by kernel_rfl) W (hW.2.1)) ⟨hS, cA, aA, aB⟩ ?_
  refine hx_take (i := 4) (oi := _) (v := .agg #[.string ⟨a_s.toArray⟩, .string ⟨a_p.toArray⟩, .int .i64 a_n, .bool a_v0, .string ⟨a_l0.toArray⟩, .bool a_v1, .string ⟨a_l1.toArray⟩, .bool a_v2, .string ⟨a_l2.toArray⟩, .bool a_v3, .string ⟨a_l3.toArray⟩]) rfl rfl hns (by kernel_rfl) (by kernel_rfl) hQ (by kernel_rfl) (fun W hW => ld_at rfl (by kernel_rfl) (by kernel_rfl) (by kernel_rfl) W (hW.2.2.1)) ⟨hS, cA, aA, aB⟩ ?_
  refine hx_call (i := 5) (oi := _) 36 #[.agg #[.string ⟨c_s.toArray⟩, .string ⟨c_p.toArray⟩, .int .i64 c_n, .bool c_v0, .string ⟨c_l0.toArray⟩, .bool c_v1, .string ⟨c_l1.toArray⟩, .bool c_v2, .string ⟨c_l2.toArray⟩, .bool c_v3, .string ⟨c_l3.toArray⟩], .agg #[.string ⟨a_s.toArray⟩, .string ⟨a_p.toArray⟩, .int .i64 a_n, .bool a_v0, .string ⟨a_l0.toArray⟩, .bool a_v1, .string ⟨a_l1.toArray⟩, .bool a_v2, .string ⟨a_l2.toArray⟩, .bool a_v3, .string ⟨a_l3.toArray⟩]] rfl rfl (by kernel_rfl) (by kernel_rfl) (by kernel_rfl) (HMA.out _ (HE.out.next hS)) ?_
  rintro e wx61 ⟨mv, rfl, hb⟩
  replace hS := hS.trans hb
  replace cA := cA.next hb
  replace aA := aA.next hb
  replace aB := aB.next hb
  clear hb
  refine ⟨_, rfl, ⟨hS, cA, aA, aB⟩, ?_⟩
  refine hx_take (i := 6) (oi := _) (v := .tuple #[mv, .bool true]) rfl rfl hns (by kernel_rfl) (by kernel_rfl) hQ (by kernel_rfl) (fun _ _ => by kernel_rfl) ⟨hS, cA, aA, aB⟩ ?_
  refine hx_take (i := 7) (oi := _) (v := mv) rfl rfl hns (by kernel_rfl) (by kernel_rfl) hQ (by kernel_rfl) (fun _ _ => by kernel_rfl) ⟨hS, cA, aA, aB⟩ ?_
  refine hx_take (i := 8) (oi := _) (v := .bool true) rfl rfl hns (by kernel_rfl) (by kernel_rfl) hQ (by kernel_rfl) (fun _ _ => by kernel_rfl) ⟨hS, cA, aA, aB⟩ ?_
  refine hx_take (i := 9) (oi := _) (v := mv) rfl rfl hns (by kernel_rfl) (by kernel_rfl) hQ (by kernel_rfl) (fun _ _ => by kernel_rfl) ⟨hS, cA, aA, aB⟩ ?_
  refine hx_take (i := 10) (oi := _) (v := .bool true) rfl rfl hns (by kernel_rfl) (by kernel_rfl) hQ (by kernel_rfl) (fun _ _ => by kernel_rfl) ⟨hS, cA, aA, aB⟩ ?_
  refine wpAnyH_done (by kernel_rfl) ?_ _
  clear hns hQ
  simp only [List.set_cons_zero, List.set_cons_succ]
  obtain ⟨a_c0, a_c1, a_c2, a_c3, a_c4, a_c5, a_c6, a_c7, a_c8, a_c9, a_c10⟩ := aB.all
  go_wp2_with fail
  refine (HCK.out _ (HE.out.next hS)).mono ?_
  rintro e w5 ⟨rfl, hb⟩
  clear a_c0 a_c1 a_c2 a_c3 a_c4 a_c5 a_c6 a_c7 a_c8 a_c9 a_c10
  go_wp2_with fail
  go_ret2
  exact ⟨rfl, hS.trans hb⟩
set_option maxHeartbeats 4000000 in
set_option maxRecDepth 100000 in
theorem tadd_old {B g mp np : Nat} {cv : Value} {R : List CallP} {S : List TCall} (i : Nat) (a_s a_p : List UInt8) (a_n : Int) (a_v0 a_v1 a_v2 a_v3 : Bool) (a_l0 a_l1 a_l2 a_l3 : List UInt8) (w : World) (h : TabAt w B g mp np cv R S) (hi : i < S.length) (hf : FitsN ((a_s, a_p, a_n, (a_v0, a_l0), (a_v1, a_l1), (a_v2, a_l2), (a_v3, a_l3)) : Atm)) (hE : Env w) (hkc : checkA (S[i]).1 = 0) (hx : (extH [] (S[i]).1 ((a_s, a_p, a_n, (a_v0, a_l0), (a_v1, a_l1), (a_v2, a_l2), (a_v3, a_l3)) : Atm)).isSome = true) (hk : checkA ((a_s, a_p, a_n, (a_v0, a_l0), (a_v1, a_l1), (a_v2, a_l2), (a_v3, a_l3)) : Atm) = 0) (j : Nat) (hp : posF (S[i]).2.1 ((a_s, a_p, a_n, (a_v0, a_l0), (a_v1, a_l1), (a_v2, a_l2), (a_v3, a_l3)) : Atm) 0 = some j) :
    Calls Tryd.prog 21 #[.pointer (some ⟨g, 0, none⟩), .int .i64 (i : Int), .agg #[.string ⟨a_s.toArray⟩, .string ⟨a_p.toArray⟩, .int .i64 a_n, .bool a_v0, .string ⟨a_l0.toArray⟩, .bool a_v1, .string ⟨a_l1.toArray⟩, .bool a_v2, .string ⟨a_l2.toArray⟩, .bool a_v3, .string ⟨a_l3.toArray⟩]] w fun e w' => e = .returned (.tuple #[.bool false, .int .i64 0]) ∧ Since w w' := by
  have hS : Since w (w.alloc (.cells #[.string ⟨a_s.toArray⟩, .string ⟨a_p.toArray⟩, .int .i64 a_n, .bool a_v0, .string ⟨a_l0.toArray⟩, .bool a_v1, .string ⟨a_l1.toArray⟩, .bool a_v2, .string ⟨a_l2.toArray⟩, .bool a_v3, .string ⟨a_l3.toArray⟩] 34)) := (Since.refl w).alloc _
  have aA : At (w.alloc (.cells #[.string ⟨a_s.toArray⟩, .string ⟨a_p.toArray⟩, .int .i64 a_n, .bool a_v0, .string ⟨a_l0.toArray⟩, .bool a_v1, .string ⟨a_l1.toArray⟩, .bool a_v2, .string ⟨a_l2.toArray⟩, .bool a_v3, .string ⟨a_l3.toArray⟩] 34)) w.heap.size 0 #[.string ⟨a_s.toArray⟩, .string ⟨a_p.toArray⟩, .int .i64 a_n, .bool a_v0, .string ⟨a_l0.toArray⟩, .bool a_v1, .string ⟨a_l1.toArray⟩, .bool a_v2, .string ⟨a_l2.toArray⟩, .bool a_v3, .string ⟨a_l3.toArray⟩] := Cel.at (heap_alloc_new w _)
  have aB : Box (w.alloc (.cells #[.string ⟨a_s.toArray⟩, .string ⟨a_p.toArray⟩, .int .i64 a_n, .bool a_v0, .string ⟨a_l0.toArray⟩, .bool a_v1, .string ⟨a_l1.toArray⟩, .bool a_v2, .string ⟨a_l2.toArray⟩, .bool a_v3, .string ⟨a_l3.toArray⟩] 34)) w.heap.size ((a_s, a_p, a_n, (a_v0, a_l0), (a_v1, a_l1), (a_v2, a_l2), (a_v3, a_l3)) : Atm) := box_new w ((a_s, a_p, a_n, (a_v0, a_l0), (a_v1, a_l1), (a_v2, a_l2), (a_v3, a_l3)) : Atm) _
  have hi2 : i < R.length := by rw [h.len]; exact hi
  have HAT := Lib.hid (tat_yes i _ (h.next hS) hi2)
  have hC := h.call i hi2 hi
  have HXS := Lib.hid hx
  have HR2 := Lib.hid hp
  obtain ⟨c, hc⟩ : ∃ c, Hid (c = S[i]) := ⟨S[i], rfl⟩
  obtain ⟨q, hq⟩ : ∃ q, Hid (q = R[i]) := ⟨R[i], rfl⟩
  rw [← hq.out] at HAT
  rw [← hc.out] at HXS hkc HR2
  have hC2 : CallAt w B q c := by rw [hq.out, hc.out]; exact hC
  clear hC
  have hC := hC2
  clear hC2
  clear h hi hi2 hc hq hx hp
  obtain ⟨qb, qt, qn, qa, qw⟩ := q
  obtain ⟨⟨c_s, c_p, c_n, ⟨c_v0, c_l0⟩, ⟨c_v1, c_l1⟩, ⟨c_v2, c_l2⟩, ⟨c_v3, c_l3⟩⟩, cs, cw⟩ := c
  simp only at HAT hkc HXS
  have hans := hC.ans
  simp only at hans
  obtain ⟨aa, ac, rfl⟩ : ∃ a k, qa = .slice a cs.length k := own_slice hans
  have hcl : Cel w qb (callC (((c_s, c_p, c_n, (c_v0, c_l0), (c_v1, c_l1), (c_v2, c_l2), (c_v3, c_l3)) : Atm), cs, cw) (.slice aa cs.length ac) qt qw) 68 := hC.cel
  have cA : At w qb 0 #[.string ⟨c_s.toArray⟩, .string ⟨c_p.toArray⟩, .int .i64 c_n, .bool c_v0, .string ⟨c_l0.toArray⟩, .bool c_v1, .string ⟨c_l1.toArray⟩, .bool c_v2, .string ⟨c_l2.toArray⟩, .bool c_v3, .string ⟨c_l3.toArray⟩] := at_half hcl
  have HE := Lib.hid hE
  have HMA := Lib.hid (fun W hE => match_flag c_s c_p c_n c_v0 c_v1 c_v2 c_v3 c_l0 c_l1 c_l2 c_l3 a_s a_p a_n a_v0 a_v1 a_v2 a_v3 a_l0 a_l1 a_l2 a_l3 hkc hf.1 HXS.out W hE)
  have HCK := Lib.hid (fun W (hE : Env W) => check_any a_s a_p a_n a_v0 a_v1 a_v2 a_v3 a_l0 a_l1 a_l2 a_l3 W hf.1 hE)
  rw [hk] at HCK
  have mA0 : At w qb 11 #[.slice aa cs.length ac, .map (some qt)] := at_two (hcl.cell 11) (hcl.cell 12)
  have hM0 : AIdx w qt qn cs := hC.map
  have HP : Hid (∀ y ∈ cs, FitsN y) := hC.fit.2
  have HFA := Lib.hid hf
  have HND : Hid cs.Nodup := hC.nd
  clear hC hans hcl hE hkc hk hf
  go_enter Tryd.func21, Tryd.ntmps21
  go_wp2_with fail
  refine HAT.out.mono ?_
  rintro e w2 ⟨rfl, hb⟩
  replace hS := hS.trans hb
  replace aA := aA.next hb
  replace aB := aB.next hb
  replace cA := cA.next hS
  clear HAT hb
  go_wp2_with fail
  replace hS := hS.trans ((Since.refl w2).drew)
  replace cA := cA.next ((Since.refl w2).drew)
  replace aA := aA.next ((Since.refl w2).drew)
  replace aB := aB.next ((Since.refl w2).drew)
  refine hx_begin (S := fun W => (Since w W) ∧ (At W qb 0 #[.string ⟨c_s.toArray⟩, .string ⟨c_p.toArray⟩, .int .i64 c_n, .bool c_v0, .string ⟨c_l0.toArray⟩, .bool c_v1, .string ⟨c_l1.toArray⟩, .bool c_v2, .string ⟨c_l2.toArray⟩, .bool c_v3, .string ⟨c_l3.toArray⟩]) ∧ (At W w.heap.size 0 #[.string ⟨a_s.toArray⟩, .string ⟨a_p.toArray⟩, .int .i64 a_n, .bool a_v0, .string ⟨a_l0.toArray⟩, .bool a_v1, .string ⟨a_l1.toArray⟩, .bool a_v2, .string ⟨a_l2.toArray⟩, .bool a_v3, .string ⟨a_l3.toArray⟩]) ∧ (Box W w.heap.size ((a_s, a_p, a_n, (a_v0, a_l0), (a_v1, a_l1), (a_v2, a_l2), (a_v3, a_l3)) : Atm))) (by kernel_rfl) ⟨hS, cA, aA, aB⟩ (by kernel_rfl) (fun _ _ _ _ _ h => h) (fun hns hQ => ?_)
  refine hx_take (i := 0) (oi := _) (v := .pointer (some ⟨qb, 0, none⟩)) rfl rfl hns (by kernel_rfl) (by kernel_rfl) hQ (by kernel_rfl) (fun _ _ => by kernel_rfl) ⟨hS, cA, aA, aB⟩ ?_
  refine hx_take (i := 1) (oi := _) (v := .pointer (some ⟨qb, 0, none⟩)) rfl rfl hns (by kernel_rfl) (by kernel_rfl) hQ (by kernel_rfl) (fun _ _ => by kernel_rfl) ⟨hS, cA, aA, aB⟩ ?_
  refine hx_take (i := 2) (oi := _) (v := .pointer (some ⟨qb, 0, none⟩)) rfl rfl hns (by kernel_rfl) (by kernel_rfl) hQ (by kernel_rfl) (fun _ _ => by kernel_rfl) ⟨hS, cA, aA, aB⟩ ?_
  refine hx_take (i := 3) (oi := _) (v := .agg #[.string ⟨c_s.toArray⟩, .string ⟨c_p.toArray⟩, .int .i64 c_n, .bool c_v0, .string ⟨c_l0.toArray⟩, .bool c_v1, .string ⟨c_l1.toArray⟩, .bool c_v2, .string ⟨c_l2.toArray⟩, .bool c_v3, .string ⟨c_l3.toArray⟩]) rfl rfl hns (by kernel_rfl) (by kernel_rfl) hQ (by kernel_rfl) (fun W hW => ld_at rfl (by kernel_rfl) (by kernel_rfl) (by kernel_rfl) W (hW.2.1)) ⟨hS, cA, aA, aB⟩ ?_
  refine hx_take (i := 4) (oi := _) (v := .agg #[.string ⟨a_s.toArray⟩, .string ⟨a_p.toArray⟩, .int .i64 a_n, .bool a_v0, .string ⟨a_l0.toArray⟩, .bool a_v1, .string ⟨a_l1.toArray⟩, .bool a_v2, .string ⟨a_l2.toArray⟩, .bool a_v3, .string ⟨a_l3.toArray⟩]) rfl rfl hns (by kernel_rfl) (by kernel_rfl) hQ (by kernel_rfl) (fun W hW => ld_at rfl (by kernel_rfl) (by kernel_rfl) (by kernel_rfl) W (hW.2.2.1)) ⟨hS, cA, aA, aB⟩ ?_
  refine hx_call (i := 5) (oi := _) 36 #[.agg #[.string ⟨c_s.toArray⟩, .string ⟨c_p.toArray⟩, .int .i64 c_n, .bool c_v0, .string ⟨c_l0.toArray⟩, .bool c_v1, .string ⟨c_l1.toArray⟩, .bool c_v2, .string ⟨c_l2.toArray⟩, .bool c_v3, .string ⟨c_l3.toArray⟩], .agg #[.string ⟨a_s.toArray⟩, .string ⟨a_p.toArray⟩, .int .i64 a_n, .bool a_v0, .string ⟨a_l0.toArray⟩, .bool a_v1, .string ⟨a_l1.toArray⟩, .bool a_v2, .string ⟨a_l2.toArray⟩, .bool a_v3, .string ⟨a_l3.toArray⟩]] rfl rfl (by kernel_rfl) (by kernel_rfl) (by kernel_rfl) (HMA.out _ (HE.out.next hS)) ?_
  rintro e wx61 ⟨mv, rfl, hb⟩
  replace hS := hS.trans hb
  replace cA := cA.next hb
  replace aA := aA.next hb
  replace aB := aB.next hb
  clear hb
  refine ⟨_, rfl, ⟨hS, cA, aA, aB⟩, ?_⟩
  refine hx_take (i := 6) (oi := _) (v := .tuple #[mv, .bool true]) rfl rfl hns (by kernel_rfl) (by kernel_rfl) hQ (by kernel_rfl) (fun _ _ => by kernel_rfl) ⟨hS, cA, aA, aB⟩ ?_
  refine hx_take (i := 7) (oi := _) (v := mv) rfl rfl hns (by kernel_rfl) (by kernel_rfl) hQ (by kernel_rfl) (fun _ _ => by kernel_rfl) ⟨hS, cA, aA, aB⟩ ?_
  refine hx_take (i := 8) (oi := _) (v := .bool true) rfl rfl hns (by kernel_rfl) (by kernel_rfl) hQ (by kernel_rfl) (fun _ _ => by kernel_rfl) ⟨hS, cA, aA, aB⟩ ?_
  refine hx_take (i := 9) (oi := _) (v := mv) rfl rfl hns (by kernel_rfl) (by kernel_rfl) hQ (by kernel_rfl) (fun _ _ => by kernel_rfl) ⟨hS, cA, aA, aB⟩ ?_
  refine hx_take (i := 10) (oi := _) (v := .bool true) rfl rfl hns (by kernel_rfl) (by kernel_rfl) hQ (by kernel_rfl) (fun _ _ => by kernel_rfl) ⟨hS, cA, aA, aB⟩ ?_
  refine wpAnyH_done (by kernel_rfl) ?_ _
  clear hns hQ
  simp only [List.set_cons_zero, List.set_cons_succ]
  obtain ⟨a_c0, a_c1, a_c2, a_c3, a_c4, a_c5, a_c6, a_c7, a_c8, a_c9, a_c10⟩ := aB.all
  clear aB
  go_wp2_with fail
  refine (HCK.out _ (HE.out.next hS)).mono ?_
  rintro e w5 ⟨rfl, hb⟩
  replace hS := hS.trans hb
  replace aA := aA.next hb
  have mA := mA0.next hS
  have hM := hM0.next hS
  clear a_c0 a_c1 a_c2 a_c3 a_c4 a_c5 a_c6 a_c7 a_c8 a_c9 a_c10 hb HCK HMA cA
  go_wp2_with fail
  replace hS := hS.trans ((Since.refl w5).drew)
  replace mA := mA.next ((Since.refl w5).drew)
  replace aA := aA.next ((Since.refl w5).drew)
  replace hM := hM.next ((Since.refl w5).drew)
  refine hx_begin (S := fun W => (Since w W) ∧ (At W qb 11 #[.slice aa cs.length ac, .map (some qt)]) ∧ (At W w.heap.size 0 #[.string ⟨a_s.toArray⟩, .string ⟨a_p.toArray⟩, .int .i64 a_n, .bool a_v0, .string ⟨a_l0.toArray⟩, .bool a_v1, .string ⟨a_l1.toArray⟩, .bool a_v2, .string ⟨a_l2.toArray⟩, .bool a_v3, .string ⟨a_l3.toArray⟩]) ∧ (AIdx W qt qn cs)) (by kernel_rfl) ⟨hS, mA, aA, hM⟩ (by kernel_rfl) (fun _ _ _ _ _ h => h) (fun hns hQ => ?_)
  refine hx_take (i := 0) (oi := _) (v := .pointer (some ⟨qb, 0, none⟩)) rfl rfl hns (by kernel_rfl) (by kernel_rfl) hQ (by kernel_rfl) (fun _ _ => by kernel_rfl) ⟨hS, mA, aA, hM⟩ ?_
  refine hx_take (i := 1) (oi := _) (v := .pointer (some ⟨qb, 0, none⟩)) rfl rfl hns (by kernel_rfl) (by kernel_rfl) hQ (by kernel_rfl) (fun _ _ => by kernel_rfl) ⟨hS, mA, aA, hM⟩ ?_
  refine hx_take (i := 2) (oi := _) (v := .pointer (some ⟨qb, 12, none⟩)) rfl rfl hns (by kernel_rfl) (by kernel_rfl) hQ (by kernel_rfl) (fun _ _ => by kernel_rfl) ⟨hS, mA, aA, hM⟩ ?_
  refine hx_take (i := 3) (oi := _) (v := .map (some qt)) rfl rfl hns (by kernel_rfl) (by kernel_rfl) hQ (by kernel_rfl) (fun W hW => ld_one rfl (by kernel_rfl) (by kernel_rfl) W (hW.2.1 1 _ rfl)) ⟨hS, mA, aA, hM⟩ ?_
  refine hx_take (i := 4) (oi := _) (v := .agg #[.string ⟨a_s.toArray⟩, .string ⟨a_p.toArray⟩, .int .i64 a_n, .bool a_v0, .string ⟨a_l0.toArray⟩, .bool a_v1, .string ⟨a_l1.toArray⟩, .bool a_v2, .string ⟨a_l2.toArray⟩, .bool a_v3, .string ⟨a_l3.toArray⟩]) rfl rfl hns (by kernel_rfl) (by kernel_rfl) hQ (by kernel_rfl) (fun W hW => ld_at rfl (by kernel_rfl) (by kernel_rfl) (by kernel_rfl) W (hW.2.2.1)) ⟨hS, mA, aA, hM⟩ ?_
  refine hx_take (i := 5) (oi := _) (v := .tuple #[.int .i64 (j : Int), .bool true]) rfl rfl hns (by kernel_rfl) (by kernel_rfl) hQ (by kernel_rfl) (fun W hW => alook_i a_s a_p a_n a_v0 a_v1 a_v2 a_v3 a_l0 a_l1 a_l2 a_l3 HP.out HFA.out HND.out HR2.out rfl (by kernel_rfl) (by kernel_rfl) W (hW.2.2.2)) ⟨hS, mA, aA, hM⟩ ?_
  refine hx_take (i := 6) (oi := _) (v := .tuple #[.int .i64 (j : Int), .bool true]) rfl rfl hns (by kernel_rfl) (by kernel_rfl) hQ (by kernel_rfl) (fun _ _ => by kernel_rfl) ⟨hS, mA, aA, hM⟩ ?_
  refine hx_take (i := 7) (oi := _) (v := .int .i64 (j : Int)) rfl rfl hns (by kernel_rfl) (by kernel_rfl) hQ (by kernel_rfl) (fun _ _ => by kernel_rfl) ⟨hS, mA, aA, hM⟩ ?_
  refine hx_take (i := 8) (oi := _) (v := .bool true) rfl rfl hns (by kernel_rfl) (by kernel_rfl) hQ (by kernel_rfl) (fun _ _ => by kernel_rfl) ⟨hS, mA, aA, hM⟩ ?_
  refine hx_take (i := 9) (oi := _) (v := .int .i64 (j : Int)) rfl rfl hns (by kernel_rfl) (by kernel_rfl) hQ (by kernel_rfl) (fun _ _ => by kernel_rfl) ⟨hS, mA, aA, hM⟩ ?_
  refine hx_take (i := 10) (oi := _) (v := .bool true) rfl rfl hns (by kernel_rfl) (by kernel_rfl) hQ (by kernel_rfl) (fun _ _ => by kernel_rfl) ⟨hS, mA, aA, hM⟩ ?_
  refine wpAnyH_done (by kernel_rfl) ?_ _
  clear hns hQ
  simp only [List.set_cons_zero, List.set_cons_succ]
  go_wp2_with fail
  go_ret2
  exact ⟨rfl, hS⟩
set_option maxHeartbeats 8000000 in
set_option maxRecDepth 100000 in
theorem tadd_new {B g mp np : Nat} {cv : Value} {R : List CallP} {S : List TCall} (i : Nat) (a_s a_p : List UInt8) (a_n : Int) (a_v0 a_v1 a_v2 a_v3 : Bool) (a_l0 a_l1 a_l2 a_l3 : List UInt8) (w : World) (h : TabAt w B g mp np cv R S) (hi : i < S.length) (hf : FitsN ((a_s, a_p, a_n, (a_v0, a_l0), (a_v1, a_l1), (a_v2, a_l2), (a_v3, a_l3)) : Atm)) (hE : Env w) (hkc : checkA (S[i]).1 = 0) (hx : (extH [] (S[i]).1 ((a_s, a_p, a_n, (a_v0, a_l0), (a_v1, a_l1), (a_v2, a_l2), (a_v3, a_l3)) : Atm)).isSome = true) (hk : checkA ((a_s, a_p, a_n, (a_v0, a_l0), (a_v1, a_l1), (a_v2, a_l2), (a_v3, a_l3)) : Atm) = 0) (hp : posF (S[i]).2.1 ((a_s, a_p, a_n, (a_v0, a_l0), (a_v1, a_l1), (a_v2, a_l2), (a_v3, a_l3)) : Atm) 0 = none) (hl : (S[i]).2.1.length < 100000) (hcn : cntS S < 1000000) (hBw : B ≤ w.heap.size) :
    Calls Tryd.prog 21 #[.pointer (some ⟨g, 0, none⟩), .int .i64 (i : Int), .agg #[.string ⟨a_s.toArray⟩, .string ⟨a_p.toArray⟩, .int .i64 a_n, .bool a_v0, .string ⟨a_l0.toArray⟩, .bool a_v1, .string ⟨a_l1.toArray⟩, .bool a_v2, .string ⟨a_l2.toArray⟩, .bool a_v3, .string ⟨a_l3.toArray⟩]] w fun e w' => e = .returned (.tuple #[.bool true, .int .i64 0]) ∧ ∃ R', TabAt w' B g mp np cv R' (S.set i (addC S[i] ((a_s, a_p, a_n, (a_v0, a_l0), (a_v1, a_l1), (a_v2, a_l2), (a_v3, a_l3)) : Atm))) ∧ (∀ b, TabB g mp cv R' b → TabB g mp cv R b ∨ w.heap.size ≤ b) ∧ Keep (TabB g mp cv R) w w' := by
  have hS : Since w (w.alloc (.cells #[.string ⟨a_s.toArray⟩, .string ⟨a_p.toArray⟩, .int .i64 a_n, .bool a_v0, .string ⟨a_l0.toArray⟩, .bool a_v1, .string ⟨a_l1.toArray⟩, .bool a_v2, .string ⟨a_l2.toArray⟩, .bool a_v3, .string ⟨a_l3.toArray⟩] 34)) := (Since.refl w).alloc _
  have aA : At (w.alloc (.cells #[.string ⟨a_s.toArray⟩, .string ⟨a_p.toArray⟩, .int .i64 a_n, .bool a_v0, .string ⟨a_l0.toArray⟩, .bool a_v1, .string ⟨a_l1.toArray⟩, .bool a_v2, .string ⟨a_l2.toArray⟩, .bool a_v3, .string ⟨a_l3.toArray⟩] 34)) w.heap.size 0 #[.string ⟨a_s.toArray⟩, .string ⟨a_p.toArray⟩, .int .i64 a_n, .bool a_v0, .string ⟨a_l0.toArray⟩, .bool a_v1, .string ⟨a_l1.toArray⟩, .bool a_v2, .string ⟨a_l2.toArray⟩, .bool a_v3, .string ⟨a_l3.toArray⟩] := Cel.at (heap_alloc_new w _)
  have aB : Box (w.alloc (.cells #[.string ⟨a_s.toArray⟩, .string ⟨a_p.toArray⟩, .int .i64 a_n, .bool a_v0, .string ⟨a_l0.toArray⟩, .bool a_v1, .string ⟨a_l1.toArray⟩, .bool a_v2, .string ⟨a_l2.toArray⟩, .bool a_v3, .string ⟨a_l3.toArray⟩] 34)) w.heap.size ((a_s, a_p, a_n, (a_v0, a_l0), (a_v1, a_l1), (a_v2, a_l2), (a_v3, a_l3)) : Atm) := box_new w ((a_s, a_p, a_n, (a_v0, a_l0), (a_v1, a_l1), (a_v2, a_l2), (a_v3, a_l3)) : Atm) _
  have hi2 : i < R.length := by rw [h.len]; exact hi
  have HAT := Lib.hid (tat_yes i _ (h.next hS) hi2)
  have hC := h.call i hi2 hi
  have HXS := Lib.hid hx
  have HR2 := Lib.hid hp
  obtain ⟨Q, hQ⟩ : ∃ Q : World → Prop, Hid (Q = fun w' => ∃ R', TabAt w' B g mp np cv R' (S.set i (addC S[i] ((a_s, a_p, a_n, (a_v0, a_l0), (a_v1, a_l1), (a_v2, a_l2), (a_v3, a_l3)) : Atm))) ∧ (∀ b, TabB g mp cv R' b → TabB g mp cv R b ∨ w.heap.size ≤ b) ∧ Keep (TabB g mp cv R) w w') := ⟨fun w' => ∃ R', TabAt w' B g mp np cv R' (S.set i (addC S[i] ((a_s, a_p, a_n, (a_v0, a_l0), (a_v1, a_l1), (a_v2, a_l2), (a_v3, a_l3)) : Atm))) ∧ (∀ b, TabB g mp cv R' b → TabB g mp cv R b ∨ w.heap.size ≤ b) ∧ Keep (TabB g mp cv R) w w', rfl⟩
  have hQ2 : ∀ w', (∃ R', TabAt w' B g mp np cv R' (S.set i (addC S[i] ((a_s, a_p, a_n, (a_v0, a_l0), (a_v1, a_l1), (a_v2, a_l2), (a_v3, a_l3)) : Atm))) ∧ (∀ b, TabB g mp cv R' b → TabB g mp cv R b ∨ w.heap.size ≤ b) ∧ Keep (TabB g mp cv R) w w') = Q w' := fun w' => by rw [hQ.out]
  have HWD : Hid (∀ (W8 Wm Wa W3 : World) (v' : Value), Since w W8 → W8.grownBy Wm (some R[i].th) → AIdx Wm R[i].th (R[i].nt + 1) ((S[i]).2.1 ++ [((a_s, a_p, a_n, (a_v0, a_l0), (a_v1, a_l1), (a_v2, a_l2), (a_v3, a_l3)) : Atm)]) → Since Wm Wa → Wa.grownBy W3 R[i].av.ownBlock → W3.ownsRow B 34 11 v' ((S[i]).2.1.length + 1) ((S[i]).2.1.flatMap atmL ++ (atmC ((a_s, a_p, a_n, (a_v0, a_l0), (a_v1, a_l1), (a_v2, a_l2), (a_v3, a_l3)) : Atm)).toList) → (v'.ownBlock = R[i].av.ownBlock ∨ v'.ownBlock = some Wa.heap.size) → Q ((W3.setCell ⟨R[i].b, 11, none⟩ v').setCell ⟨g, 2, none⟩ (.int .i64 ((cntS S : Int) + 1)))) := by
    intro W8 Wm Wa W3 v' x1 x2 x3 x4 x5 x6 x7
    rw [← hQ2]
    exact h.added hi2 hi ((a_s, a_p, a_n, (a_v0, a_l0), (a_v1, a_l1), (a_v2, a_l2), (a_v3, a_l3)) : Atm) x1 x2 x3 x4 x5 x6 x7 hl hp hf
  have hgc : Cel w g #[.map (some mp), cv, .int .i64 (cntS S : Int)] 64 := h.cel
  have HGA : Hid (some g ≠ some R[i].th ∧ some g ≠ R[i].av.ownBlock ∧ R[i].b ≠ g) := ⟨fun e => (h.head_apart hi2 hi _ (.inr (.inl rfl))).1 (by injection e with e; exact e.symm), fun e => (h.head_apart hi2 hi g (.inr (.inr (.inl e.symm)))).1 rfl, (h.head_apart hi2 hi _ (.inl rfl)).1⟩
  have HLT : Hid (R[i].th < w.heap.size ∧ R[i].b < w.heap.size ∧ ∀ b, R[i].av.ownBlock = some b → b < w.heap.size) := ⟨hC.map.lt, hC.cel.lt, fun b hb => (hC.ans.lt b hb).2⟩
  simp only [hQ2]
  clear hQ hQ2
  obtain ⟨cn, hcn0⟩ : ∃ n, Hid (n = cntS S) := ⟨_, rfl⟩
  rw [← hcn0.out] at HWD hgc hcn
  obtain ⟨c, hc⟩ : ∃ c, Hid (c = S[i]) := ⟨S[i], rfl⟩
  obtain ⟨q, hq⟩ : ∃ q, Hid (q = R[i]) := ⟨R[i], rfl⟩
  rw [← hq.out] at HAT HWD HGA HLT
  rw [← hc.out] at HXS hkc HR2 HWD hl
  have hC2 : CallAt w B q c := by rw [hq.out, hc.out]; exact hC
  clear hC
  have hC := hC2
  clear hC2
  clear h hi hi2 hc hq hx hp hcn0
  obtain ⟨qb, qt, qn, qa, qw⟩ := q
  obtain ⟨⟨c_s, c_p, c_n, ⟨c_v0, c_l0⟩, ⟨c_v1, c_l1⟩, ⟨c_v2, c_l2⟩, ⟨c_v3, c_l3⟩⟩, cs, cw⟩ := c
  simp only at HAT hkc HXS HWD hl HGA HLT
  have hans := hC.ans
  simp only at hans
  obtain ⟨aa, ac, rfl⟩ : ∃ a k, qa = .slice a cs.length k := own_slice hans
  have hcl : Cel w qb (callC (((c_s, c_p, c_n, (c_v0, c_l0), (c_v1, c_l1), (c_v2, c_l2), (c_v3, c_l3)) : Atm), cs, cw) (.slice aa cs.length ac) qt qw) 68 := hC.cel
  have cA : At w qb 0 #[.string ⟨c_s.toArray⟩, .string ⟨c_p.toArray⟩, .int .i64 c_n, .bool c_v0, .string ⟨c_l0.toArray⟩, .bool c_v1, .string ⟨c_l1.toArray⟩, .bool c_v2, .string ⟨c_l2.toArray⟩, .bool c_v3, .string ⟨c_l3.toArray⟩] := at_half hcl
  have HE := Lib.hid hE
  have HMA := Lib.hid (fun W hE => match_flag c_s c_p c_n c_v0 c_v1 c_v2 c_v3 c_l0 c_l1 c_l2 c_l3 a_s a_p a_n a_v0 a_v1 a_v2 a_v3 a_l0 a_l1 a_l2 a_l3 hkc hf.1 HXS.out W hE)
  have HCK := Lib.hid (fun W (hE : Env W) => check_any a_s a_p a_n a_v0 a_v1 a_v2 a_v3 a_l0 a_l1 a_l2 a_l3 W hf.1 hE)
  rw [hk] at HCK
  have mA0 : At w qb 11 #[.slice aa cs.length ac, .map (some qt)] := at_two (hcl.cell 11) (hcl.cell 12)
  have hM0 : AIdx w qt qn cs := hC.map
  have HP : Hid (∀ y ∈ cs, FitsN y) := hC.fit.2
  have HFA := Lib.hid hf
  have HND : Hid cs.Nodup := hC.nd
  have HPB : Hid (cs.length ≤ 1000000) := by show _ ≤ _; omega
  have HNP : Hid (qn < maxLen) := by have := hC.ln; simp only at this; show _ < _; unfold maxLen; omega
  have HOW := Lib.hid hans
  have HCL := Lib.hid hcl
  have HGC := Lib.hid hgc
  have HQT : Hid (some qb ≠ some qt) := fun e => kidx_cel_ne hC.map hcl (by injection e with e; exact e.symm)
  have HAQ : Hid ((Value.slice aa cs.length ac).ownBlock = none ∨ (Value.slice aa cs.length ac).ownBlock ≠ some qt) := .inr fun e => kidx_own_ne hC.map hans e.symm
  have HHA : Hid (some w.heap.size ≠ some qt) := fun e => by injection e with e; have := HLT.out.1; omega
  obtain ⟨D, hD⟩ : ∃ D, Hid (D = cs.flatMap atmL) := ⟨_, rfl⟩
  rw [← hD.out] at HWD HOW
  obtain ⟨i5, hi5, hz0, hz1, hz2⟩ := info_parts own_atm_info
  have I5 := Lib.hid (And.intro hi5 (And.intro hz0 (And.intro hz1 hz2)))
  clear hC hans hcl hE hkc hk hf hgc hi5 hz0 hz1 hz2
  go_enter Tryd.func21, Tryd.ntmps21
  go_wp2_with fail
  refine HAT.out.mono ?_
  rintro e w2 ⟨rfl, hb⟩
  replace hS := hS.trans hb
  replace aA := aA.next hb
  replace aB := aB.next hb
  replace cA := cA.next hS
  clear HAT hb
  go_wp2_with fail
  replace hS := hS.trans ((Since.refl w2).drew)
  replace cA := cA.next ((Since.refl w2).drew)
  replace aA := aA.next ((Since.refl w2).drew)
  replace aB := aB.next ((Since.refl w2).drew)
  refine hx_begin (S := fun W => (Since w W) ∧ (At W qb 0 #[.string ⟨c_s.toArray⟩, .string ⟨c_p.toArray⟩, .int .i64 c_n, .bool c_v0, .string ⟨c_l0.toArray⟩, .bool c_v1, .string ⟨c_l1.toArray⟩, .bool c_v2, .string ⟨c_l2.toArray⟩, .bool c_v3, .string ⟨c_l3.toArray⟩]) ∧ (At W w.heap.size 0 #[.string ⟨a_s.toArray⟩, .string ⟨a_p.toArray⟩, .int .i64 a_n, .bool a_v0, .string ⟨a_l0.toArray⟩, .bool a_v1, .string ⟨a_l1.toArray⟩, .bool a_v2, .string ⟨a_l2.toArray⟩, .bool a_v3, .string ⟨a_l3.toArray⟩]) ∧ (Box W w.heap.size ((a_s, a_p, a_n, (a_v0, a_l0), (a_v1, a_l1), (a_v2, a_l2), (a_v3, a_l3)) : Atm))) (by kernel_rfl) ⟨hS, cA, aA, aB⟩ (by kernel_rfl) (fun _ _ _ _ _ h => h) (fun hns hQ => ?_)
  refine hx_take (i := 0) (oi := _) (v := .pointer (some ⟨qb, 0, none⟩)) rfl rfl hns (by kernel_rfl) (by kernel_rfl) hQ (by kernel_rfl) (fun _ _ => by kernel_rfl) ⟨hS, cA, aA, aB⟩ ?_
  refine hx_take (i := 1) (oi := _) (v := .pointer (some ⟨qb, 0, none⟩)) rfl rfl hns (by kernel_rfl) (by kernel_rfl) hQ (by kernel_rfl) (fun _ _ => by kernel_rfl) ⟨hS, cA, aA, aB⟩ ?_
  refine hx_take (i := 2) (oi := _) (v := .pointer (some ⟨qb, 0, none⟩)) rfl rfl hns (by kernel_rfl) (by kernel_rfl) hQ (by kernel_rfl) (fun _ _ => by kernel_rfl) ⟨hS, cA, aA, aB⟩ ?_
  refine hx_take (i := 3) (oi := _) (v := .agg #[.string ⟨c_s.toArray⟩, .string ⟨c_p.toArray⟩, .int .i64 c_n, .bool c_v0, .string ⟨c_l0.toArray⟩, .bool c_v1, .string ⟨c_l1.toArray⟩, .bool c_v2, .string ⟨c_l2.toArray⟩, .bool c_v3, .string ⟨c_l3.toArray⟩]) rfl rfl hns (by kernel_rfl) (by kernel_rfl) hQ (by kernel_rfl) (fun W hW => ld_at rfl (by kernel_rfl) (by kernel_rfl) (by kernel_rfl) W (hW.2.1)) ⟨hS, cA, aA, aB⟩ ?_
  refine hx_take (i := 4) (oi := _) (v := .agg #[.string ⟨a_s.toArray⟩, .string ⟨a_p.toArray⟩, .int .i64 a_n, .bool a_v0, .string ⟨a_l0.toArray⟩, .bool a_v1, .string ⟨a_l1.toArray⟩, .bool a_v2, .string ⟨a_l2.toArray⟩, .bool a_v3, .string ⟨a_l3.toArray⟩]) rfl rfl hns (by kernel_rfl) (by kernel_rfl) hQ (by kernel_rfl) (fun W hW => ld_at rfl (by kernel_rfl) (by kernel_rfl) (by kernel_rfl) W (hW.2.2.1)) ⟨hS, cA, aA, aB⟩ ?_
  refine hx_call (i := 5) (oi := _) 36 #[.agg #[.string ⟨c_s.toArray⟩, .string ⟨c_p.toArray⟩, .int .i64 c_n, .bool c_v0, .string ⟨c_l0.toArray⟩, .bool c_v1, .string ⟨c_l1.toArray⟩, .bool c_v2, .string ⟨c_l2.toArray⟩, .bool c_v3, .string ⟨c_l3.toArray⟩], .agg #[.string ⟨a_s.toArray⟩, .string ⟨a_p.toArray⟩, .int .i64 a_n, .bool a_v0, .string ⟨a_l0.toArray⟩, .bool a_v1, .string ⟨a_l1.toArray⟩, .bool a_v2, .string ⟨a_l2.toArray⟩, .bool a_v3, .string ⟨a_l3.toArray⟩]] rfl rfl (by kernel_rfl) (by kernel_rfl) (by kernel_rfl) (HMA.out _ (HE.out.next hS)) ?_
  rintro e wx61 ⟨mv, rfl, hb⟩
  replace hS := hS.trans hb
  replace cA := cA.next hb
  replace aA := aA.next hb
  replace aB := aB.next hb
  clear hb
  refine ⟨_, rfl, ⟨hS, cA, aA, aB⟩, ?_⟩
  refine hx_take (i := 6) (oi := _) (v := .tuple #[mv, .bool true]) rfl rfl hns (by kernel_rfl) (by kernel_rfl) hQ (by kernel_rfl) (fun _ _ => by kernel_rfl) ⟨hS, cA, aA, aB⟩ ?_
  refine hx_take (i := 7) (oi := _) (v := mv) rfl rfl hns (by kernel_rfl) (by kernel_rfl) hQ (by kernel_rfl) (fun _ _ => by kernel_rfl) ⟨hS, cA, aA, aB⟩ ?_
  refine hx_take (i := 8) (oi := _) (v := .bool true) rfl rfl hns (by kernel_rfl) (by kernel_rfl) hQ (by kernel_rfl) (fun _ _ => by kernel_rfl) ⟨hS, cA, aA, aB⟩ ?_
  refine hx_take (i := 9) (oi := _) (v := mv) rfl rfl hns (by kernel_rfl) (by kernel_rfl) hQ (by kernel_rfl) (fun _ _ => by kernel_rfl) ⟨hS, cA, aA, aB⟩ ?_
  refine hx_take (i := 10) (oi := _) (v := .bool true) rfl rfl hns (by kernel_rfl) (by kernel_rfl) hQ (by kernel_rfl) (fun _ _ => by kernel_rfl) ⟨hS, cA, aA, aB⟩ ?_
  refine wpAnyH_done (by kernel_rfl) ?_ _
  clear hns hQ
  simp only [List.set_cons_zero, List.set_cons_succ]
  obtain ⟨a_c0, a_c1, a_c2, a_c3, a_c4, a_c5, a_c6, a_c7, a_c8, a_c9, a_c10⟩ := aB.all
  clear aB
  go_wp2_with fail
  refine (HCK.out _ (HE.out.next hS)).mono ?_
  rintro e w5 ⟨rfl, hb⟩
  replace hS := hS.trans hb
  replace aA := aA.next hb
  have mA := mA0.next hS
  have hM := hM0.next hS
  clear a_c0 a_c1 a_c2 a_c3 a_c4 a_c5 a_c6 a_c7 a_c8 a_c9 a_c10 hb HCK HMA cA
  go_wp2_with fail
  replace hS := hS.trans ((Since.refl w5).drew)
  replace mA := mA.next ((Since.refl w5).drew)
  replace aA := aA.next ((Since.refl w5).drew)
  replace hM := hM.next ((Since.refl w5).drew)
  refine hx_begin (S := fun W => (Since w W) ∧ (At W qb 11 #[.slice aa cs.length ac, .map (some qt)]) ∧ (At W w.heap.size 0 #[.string ⟨a_s.toArray⟩, .string ⟨a_p.toArray⟩, .int .i64 a_n, .bool a_v0, .string ⟨a_l0.toArray⟩, .bool a_v1, .string ⟨a_l1.toArray⟩, .bool a_v2, .string ⟨a_l2.toArray⟩, .bool a_v3, .string ⟨a_l3.toArray⟩]) ∧ (AIdx W qt qn cs)) (by kernel_rfl) ⟨hS, mA, aA, hM⟩ (by kernel_rfl) (fun _ _ _ _ _ h => h) (fun hns hQ => ?_)
  refine hx_take (i := 0) (oi := _) (v := .pointer (some ⟨qb, 0, none⟩)) rfl rfl hns (by kernel_rfl) (by kernel_rfl) hQ (by kernel_rfl) (fun _ _ => by kernel_rfl) ⟨hS, mA, aA, hM⟩ ?_
  refine hx_take (i := 1) (oi := _) (v := .pointer (some ⟨qb, 0, none⟩)) rfl rfl hns (by kernel_rfl) (by kernel_rfl) hQ (by kernel_rfl) (fun _ _ => by kernel_rfl) ⟨hS, mA, aA, hM⟩ ?_
  refine hx_take (i := 2) (oi := _) (v := .pointer (some ⟨qb, 12, none⟩)) rfl rfl hns (by kernel_rfl) (by kernel_rfl) hQ (by kernel_rfl) (fun _ _ => by kernel_rfl) ⟨hS, mA, aA, hM⟩ ?_
  refine hx_take (i := 3) (oi := _) (v := .map (some qt)) rfl rfl hns (by kernel_rfl) (by kernel_rfl) hQ (by kernel_rfl) (fun W hW => ld_one rfl (by kernel_rfl) (by kernel_rfl) W (hW.2.1 1 _ rfl)) ⟨hS, mA, aA, hM⟩ ?_
  refine hx_take (i := 4) (oi := _) (v := .agg #[.string ⟨a_s.toArray⟩, .string ⟨a_p.toArray⟩, .int .i64 a_n, .bool a_v0, .string ⟨a_l0.toArray⟩, .bool a_v1, .string ⟨a_l1.toArray⟩, .bool a_v2, .string ⟨a_l2.toArray⟩, .bool a_v3, .string ⟨a_l3.toArray⟩]) rfl rfl hns (by kernel_rfl) (by kernel_rfl) hQ (by kernel_rfl) (fun W hW => ld_at rfl (by kernel_rfl) (by kernel_rfl) (by kernel_rfl) W (hW.2.2.1)) ⟨hS, mA, aA, hM⟩ ?_
  refine hx_take (i := 5) (oi := _) (v := .tuple #[.int .i64 0, .bool false]) rfl rfl hns (by kernel_rfl) (by kernel_rfl) hQ (by kernel_rfl) (fun W hW => alook_i a_s a_p a_n a_v0 a_v1 a_v2 a_v3 a_l0 a_l1 a_l2 a_l3 HP.out HFA.out HND.out HR2.out rfl (by kernel_rfl) (by kernel_rfl) W (hW.2.2.2)) ⟨hS, mA, aA, hM⟩ ?_
  refine hx_take (i := 6) (oi := _) (v := .tuple #[.int .i64 0, .bool false]) rfl rfl hns (by kernel_rfl) (by kernel_rfl) hQ (by kernel_rfl) (fun _ _ => by kernel_rfl) ⟨hS, mA, aA, hM⟩ ?_
  refine hx_take (i := 7) (oi := _) (v := .int .i64 0) rfl rfl hns (by kernel_rfl) (by kernel_rfl) hQ (by kernel_rfl) (fun _ _ => by kernel_rfl) ⟨hS, mA, aA, hM⟩ ?_
  refine hx_take (i := 8) (oi := _) (v := .bool false) rfl rfl hns (by kernel_rfl) (by kernel_rfl) hQ (by kernel_rfl) (fun _ _ => by kernel_rfl) ⟨hS, mA, aA, hM⟩ ?_
  refine hx_take (i := 9) (oi := _) (v := .int .i64 0) rfl rfl hns (by kernel_rfl) (by kernel_rfl) hQ (by kernel_rfl) (fun _ _ => by kernel_rfl) ⟨hS, mA, aA, hM⟩ ?_
  refine hx_take (i := 10) (oi := _) (v := .bool false) rfl rfl hns (by kernel_rfl) (by kernel_rfl) hQ (by kernel_rfl) (fun _ _ => by kernel_rfl) ⟨hS, mA, aA, hM⟩ ?_
  refine wpAnyH_done (by kernel_rfl) ?_ _
  clear hns hQ
  simp only [List.set_cons_zero, List.set_cons_succ]
  go_wp2_with fail
  generalize hw8 : w5.drew = w8 at *
  clear hw8
  clear hM mA
  have hS8 := hS
  have hM := hM0.next hS8
  have mA := mA0.next hS8
  have hS12 : Since w w8.drew := hS8.drew
  replace aA := aA.next ((Since.refl w8).drew)
  replace mA := mA.next ((Since.refl w8).drew)
  replace hM := hM.next ((Since.refl w8).drew)
  refine hx_begin (S := fun W => (At W w.heap.size 0 #[.string ⟨a_s.toArray⟩, .string ⟨a_p.toArray⟩, .int .i64 a_n, .bool a_v0, .string ⟨a_l0.toArray⟩, .bool a_v1, .string ⟨a_l1.toArray⟩, .bool a_v2, .string ⟨a_l2.toArray⟩, .bool a_v3, .string ⟨a_l3.toArray⟩]) ∧ (At W qb 11 #[.slice aa cs.length ac, .map (some qt)])) (by kernel_rfl) ⟨aA, mA⟩ (by kernel_rfl) (fun _ _ _ _ _ h => h) (fun hns hQ => ?_)
  refine hx_take (i := 0) (oi := _) (v := .pointer (some ⟨qb, 0, none⟩)) rfl rfl hns (by kernel_rfl) (by kernel_rfl) hQ (by kernel_rfl) (fun _ _ => by kernel_rfl) ⟨aA, mA⟩ ?_
  refine hx_take (i := 1) (oi := _) (v := .pointer (some ⟨qb, 0, none⟩)) rfl rfl hns (by kernel_rfl) (by kernel_rfl) hQ (by kernel_rfl) (fun _ _ => by kernel_rfl) ⟨aA, mA⟩ ?_
  refine hx_take (i := 2) (oi := _) (v := .pointer (some ⟨qb, 12, none⟩)) rfl rfl hns (by kernel_rfl) (by kernel_rfl) hQ (by kernel_rfl) (fun _ _ => by kernel_rfl) ⟨aA, mA⟩ ?_
  refine hx_take (i := 3) (oi := _) (v := .map (some qt)) rfl rfl hns (by kernel_rfl) (by kernel_rfl) hQ (by kernel_rfl) (fun W hW => ld_one rfl (by kernel_rfl) (by kernel_rfl) W (hW.2 1 _ rfl)) ⟨aA, mA⟩ ?_
  refine hx_take (i := 4) (oi := _) (v := .agg #[.string ⟨a_s.toArray⟩, .string ⟨a_p.toArray⟩, .int .i64 a_n, .bool a_v0, .string ⟨a_l0.toArray⟩, .bool a_v1, .string ⟨a_l1.toArray⟩, .bool a_v2, .string ⟨a_l2.toArray⟩, .bool a_v3, .string ⟨a_l3.toArray⟩]) rfl rfl hns (by kernel_rfl) (by kernel_rfl) hQ (by kernel_rfl) (fun W hW => ld_at rfl (by kernel_rfl) (by kernel_rfl) (by kernel_rfl) W (hW.1)) ⟨aA, mA⟩ ?_
  refine hx_take (i := 5) (oi := _) (v := .pointer (some ⟨qb, 0, none⟩)) rfl rfl hns (by kernel_rfl) (by kernel_rfl) hQ (by kernel_rfl) (fun _ _ => by kernel_rfl) ⟨aA, mA⟩ ?_
  refine hx_take (i := 6) (oi := _) (v := .pointer (some ⟨qb, 0, none⟩)) rfl rfl hns (by kernel_rfl) (by kernel_rfl) hQ (by kernel_rfl) (fun _ _ => by kernel_rfl) ⟨aA, mA⟩ ?_
  refine hx_take (i := 7) (oi := _) (v := .pointer (some ⟨qb, 11, none⟩)) rfl rfl hns (by kernel_rfl) (by kernel_rfl) hQ (by kernel_rfl) (fun _ _ => by kernel_rfl) ⟨aA, mA⟩ ?_
  refine hx_take (i := 8) (oi := _) (v := .slice aa cs.length ac) rfl rfl hns (by kernel_rfl) (by kernel_rfl) hQ (by kernel_rfl) (fun W hW => ld_one rfl (by kernel_rfl) (by kernel_rfl) W (hW.2 0 _ rfl)) ⟨aA, mA⟩ ?_
  refine hx_take (i := 9) (oi := _) (v := .int .i64 (cs.length : Int)) rfl rfl hns (by kernel_rfl) (by kernel_rfl) hQ (by kernel_rfl) (fun _ _ => by kernel_rfl) ⟨aA, mA⟩ ?_
  obtain ⟨wx71, hrun, hset, hgrow⟩ := kidx_put hM aklaw Tryd.underlying59 ((a_s, a_p, a_n, (a_v0, a_l0), (a_v1, a_l1), (a_v2, a_l2), (a_v3, a_l3)) : Atm) HNP.out HPB.out (keyOf_atom a_s a_p a_n a_v0 a_v1 a_v2 a_v3 a_l0 a_l1 a_l2 a_l3 HFA.out)
  replace aA := aA.far hgrow HHA.out
  replace mA := mA.far hgrow HQT.out
  refine hx_store (i := 10) (oi := _) wx71 rfl rfl (by kernel_rfl) (by kernel_rfl) (upd_run rfl (by kernel_rfl) (by kernel_rfl) (by kernel_rfl) hrun) ⟨aA, mA⟩ ?_
  refine wpAnyH_done (by kernel_rfl) ?_ _
  clear hns hQ
  simp only [List.set_cons_zero, List.set_cons_succ]
  have hg13 : Cel wx71 g #[.map (some mp), cv, .int .i64 (cn : Int)] 64 := (HGC.out.next hS12).grown hgrow HGA.out.1
  have hc13 : Cel wx71 qb (callC (((c_s, c_p, c_n, (c_v0, c_l0), (c_v1, c_l1), (c_v2, c_l2), (c_v3, c_l3)) : Atm), cs, cw) (.slice aa cs.length ac) qt qw) 68 := (HCL.out.next hS12).grown hgrow HQT.out
  have ho13 : wx71.ownsRow B 34 11 (.slice aa cs.length ac) cs.length D := (own_since HOW.out hS12).kept hgrow HAQ.out
  have hsz : B ≤ wx71.heap.size := Nat.le_trans hBw (Nat.le_trans hS12.size hgrow.size)
  clear mA hM
  go_wp2_with fail
  have hN : Since wx71 wx71 := Since.refl _
  replace hc13 := hc13.next ((Since.refl wx71).drew)
  replace hg13 := hg13.next ((Since.refl wx71).drew)
  replace ho13 := own_since ho13 ((Since.refl wx71).drew)
  replace hN := hN.trans ((Since.refl wx71).drew)
  replace aA := aA.next ((Since.refl wx71).drew)
  refine hx_begin (S := fun W => (At W w.heap.size 0 #[.string ⟨a_s.toArray⟩, .string ⟨a_p.toArray⟩, .int .i64 a_n, .bool a_v0, .string ⟨a_l0.toArray⟩, .bool a_v1, .string ⟨a_l1.toArray⟩, .bool a_v2, .string ⟨a_l2.toArray⟩, .bool a_v3, .string ⟨a_l3.toArray⟩])) (by kernel_rfl) aA (by kernel_rfl) (fun _ _ _ _ _ h => h) (fun hns hQ => ?_)
  refine hx_take (i := 0) (oi := _) (v := .pointer (some ⟨qb, 0, none⟩)) rfl rfl hns (by kernel_rfl) (by kernel_rfl) hQ (by kernel_rfl) (fun _ _ => by kernel_rfl) aA ?_
  refine hx_take (i := 1) (oi := _) (v := .pointer (some ⟨qb, 0, none⟩)) rfl rfl hns (by kernel_rfl) (by kernel_rfl) hQ (by kernel_rfl) (fun _ _ => by kernel_rfl) aA ?_
  refine hx_take (i := 2) (oi := _) (v := .pointer (some ⟨qb, 0, none⟩)) rfl rfl hns (by kernel_rfl) (by kernel_rfl) hQ (by kernel_rfl) (fun _ _ => by kernel_rfl) aA ?_
  refine hx_take (i := 3) (oi := _) (v := .pointer (some ⟨qb, 11, none⟩)) rfl rfl hns (by kernel_rfl) (by kernel_rfl) hQ (by kernel_rfl) (fun _ _ => by kernel_rfl) aA ?_
  refine hx_take (i := 5) (oi := _) (v := .agg #[.string ⟨a_s.toArray⟩, .string ⟨a_p.toArray⟩, .int .i64 a_n, .bool a_v0, .string ⟨a_l0.toArray⟩, .bool a_v1, .string ⟨a_l1.toArray⟩, .bool a_v2, .string ⟨a_l2.toArray⟩, .bool a_v3, .string ⟨a_l3.toArray⟩]) rfl rfl hns (by kernel_rfl) (by kernel_rfl) hQ (by kernel_rfl) (fun W hW => ld_at rfl (by kernel_rfl) (by kernel_rfl) (by kernel_rfl) W (hW)) aA ?_
  refine hx_two_vv (i := 4) (j := 6) (.slice aa cs.length ac) (wx71.drew) (.slice (some ⟨wx71.drew.heap.size, 0, none⟩) 1 1) ((wx71.drew.alloc (.cells #[.string ⟨a_s.toArray⟩, .string ⟨a_p.toArray⟩, .int .i64 a_n, .bool a_v0, .string ⟨a_l0.toArray⟩, .bool a_v1, .string ⟨a_l1.toArray⟩, .bool a_v2, .string ⟨a_l2.toArray⟩, .bool a_v3, .string ⟨a_l3.toArray⟩] 34))) rfl rfl (by kernel_rfl) (by kernel_rfl) (by kernel_rfl) rfl (ld_one rfl (by kernel_rfl) (by kernel_rfl) wx71.drew (hc13.cell 11)) aA rfl (by kernel_rfl) (aA.next ((Since.refl wx71.drew).alloc (.cells #[.string ⟨a_s.toArray⟩, .string ⟨a_p.toArray⟩, .int .i64 a_n, .bool a_v0, .string ⟨a_l0.toArray⟩, .bool a_v1, .string ⟨a_l1.toArray⟩, .bool a_v2, .string ⟨a_l2.toArray⟩, .bool a_v3, .string ⟨a_l3.toArray⟩] 34))) ?_ ?_
  · refine hx_make (i := 6) (oi := _) (.slice (some ⟨wx71.drew.heap.size, 0, none⟩) 1 1) (wx71.drew.alloc (.cells #[.string ⟨a_s.toArray⟩, .string ⟨a_p.toArray⟩, .int .i64 a_n, .bool a_v0, .string ⟨a_l0.toArray⟩, .bool a_v1, .string ⟨a_l1.toArray⟩, .bool a_v2, .string ⟨a_l2.toArray⟩, .bool a_v3, .string ⟨a_l3.toArray⟩] 34)) rfl rfl (by kernel_rfl) (by kernel_rfl) (by kernel_rfl) (aA.next ((Since.refl wx71.drew).alloc (.cells #[.string ⟨a_s.toArray⟩, .string ⟨a_p.toArray⟩, .int .i64 a_n, .bool a_v0, .string ⟨a_l0.toArray⟩, .bool a_v1, .string ⟨a_l1.toArray⟩, .bool a_v2, .string ⟨a_l2.toArray⟩, .bool a_v3, .string ⟨a_l3.toArray⟩] 34))) ?_
    replace aA := aA.next ((Since.refl wx71.drew).alloc (.cells #[.string ⟨a_s.toArray⟩, .string ⟨a_p.toArray⟩, .int .i64 a_n, .bool a_v0, .string ⟨a_l0.toArray⟩, .bool a_v1, .string ⟨a_l1.toArray⟩, .bool a_v2, .string ⟨a_l2.toArray⟩, .bool a_v3, .string ⟨a_l3.toArray⟩] 34))
    replace hc13 := hc13.next ((Since.refl wx71.drew).alloc (.cells #[.string ⟨a_s.toArray⟩, .string ⟨a_p.toArray⟩, .int .i64 a_n, .bool a_v0, .string ⟨a_l0.toArray⟩, .bool a_v1, .string ⟨a_l1.toArray⟩, .bool a_v2, .string ⟨a_l2.toArray⟩, .bool a_v3, .string ⟨a_l3.toArray⟩] 34))
    replace hg13 := hg13.next ((Since.refl wx71.drew).alloc (.cells #[.string ⟨a_s.toArray⟩, .string ⟨a_p.toArray⟩, .int .i64 a_n, .bool a_v0, .string ⟨a_l0.toArray⟩, .bool a_v1, .string ⟨a_l1.toArray⟩, .bool a_v2, .string ⟨a_l2.toArray⟩, .bool a_v3, .string ⟨a_l3.toArray⟩] 34))
    replace ho13 := own_since ho13 ((Since.refl wx71.drew).alloc (.cells #[.string ⟨a_s.toArray⟩, .string ⟨a_p.toArray⟩, .int .i64 a_n, .bool a_v0, .string ⟨a_l0.toArray⟩, .bool a_v1, .string ⟨a_l1.toArray⟩, .bool a_v2, .string ⟨a_l2.toArray⟩, .bool a_v3, .string ⟨a_l3.toArray⟩] 34))
    replace hN := hN.trans ((Since.refl wx71.drew).alloc (.cells #[.string ⟨a_s.toArray⟩, .string ⟨a_p.toArray⟩, .int .i64 a_n, .bool a_v0, .string ⟨a_l0.toArray⟩, .bool a_v1, .string ⟨a_l1.toArray⟩, .bool a_v2, .string ⟨a_l2.toArray⟩, .bool a_v3, .string ⟨a_l3.toArray⟩] 34))
    refine hx_append (i := 7) (oi := _) (.tmp 60) (.tmp 62) 22 B 34 i5 (.agg #[.string ByteArray.empty, .string ByteArray.empty, .int .i64 0, .bool false, .string ByteArray.empty, .bool false, .string ByteArray.empty, .bool false, .string ByteArray.empty, .bool false, .string ByteArray.empty]) 11 136 (.slice aa cs.length ac) cs.length D _ (some ⟨wx71.drew.heap.size, 0, none⟩) 1 1 (#[.string ⟨a_s.toArray⟩, .string ⟨a_p.toArray⟩, .int .i64 a_n, .bool a_v0, .string ⟨a_l0.toArray⟩, .bool a_v1, .string ⟨a_l1.toArray⟩, .bool a_v2, .string ⟨a_l2.toArray⟩, .bool a_v3, .string ⟨a_l3.toArray⟩] : Array Value).toList rfl rfl (by kernel_rfl) (by kernel_rfl) rfl Tryd.underlying22 I5.out.1 I5.out.2.1 I5.out.2.2.1 I5.out.2.2.2 rfl (by decide) (by kernel_rfl) ho13 (by kernel_rfl) (reads_new _ #[.string ⟨a_s.toArray⟩, .string ⟨a_p.toArray⟩, .int .i64 a_n, .bool a_v0, .string ⟨a_l0.toArray⟩, .bool a_v1, .string ⟨a_l1.toArray⟩, .bool a_v2, .string ⟨a_l2.toArray⟩, .bool a_v3, .string ⟨a_l3.toArray⟩] _ 11 rfl) (by simp [Value.oneCell']) (by have := HPB.out; unfold maxLen; omega) (by have := HPB.out; omega) (Nat.le_trans hsz hN.size) ?_
    intro v14 w14 hown4 hg4 hat4
    obtain ⟨a4, c4, rfl⟩ := own_slice hown4
    have hX9 := HWD.out _ _ _ _ _ hS12 hgrow hset hN hg4 hown4 hat4
    have hg14 := hg13.grown hg4 HGA.out.2.1
    have hc14 := cel_own hc13 ho13 (by decide) hg4
    have aA14 := aA.far hg4 (fun e => by have := HLT.out.2.2 _ e.symm; omega)
    clear ho13 hg4 hat4 hown4 hN aA hg13 hc13
    have aA := aA14
    refine ⟨aA14, ?_⟩
    refine hx_take (i := 8) (oi := _) (v := .pointer (some ⟨qb, 0, none⟩)) rfl rfl hns (by kernel_rfl) (by kernel_rfl) hQ (by kernel_rfl) (fun _ _ => by kernel_rfl) aA ?_
    refine hx_take (i := 9) (oi := _) (v := .pointer (some ⟨qb, 11, none⟩)) rfl rfl hns (by kernel_rfl) (by kernel_rfl) hQ (by kernel_rfl) (fun _ _ => by kernel_rfl) aA ?_
    have aA15 : At (w14.setCell ⟨qb, 11, none⟩ (.slice a4 (cs.length + 1) c4)) w.heap.size 0 #[.string ⟨a_s.toArray⟩, .string ⟨a_p.toArray⟩, .int .i64 a_n, .bool a_v0, .string ⟨a_l0.toArray⟩, .bool a_v1, .string ⟨a_l1.toArray⟩, .bool a_v2, .string ⟨a_l2.toArray⟩, .bool a_v3, .string ⟨a_l3.toArray⟩] := aA14.far (grown_setCell w14 qb 11 (.slice a4 (cs.length + 1) c4)) (fun e => by injection e with e; have := HLT.out.2.1; omega)
    refine hx_store (i := 10) (oi := _) (w14.setCell ⟨qb, 11, none⟩ (.slice a4 (cs.length + 1) c4)) rfl rfl (by kernel_rfl) (by kernel_rfl) (st_atms rfl (by kernel_rfl) (by kernel_rfl) _ hc14 rfl) aA15 ?_
    refine wpAnyH_done (by kernel_rfl) ?_ _
    clear hns hQ
    simp only [List.set_cons_zero, List.set_cons_succ]
    have hg15 := hg14.grown (grown_setCell w14 qb 11 (.slice a4 (cs.length + 1) c4)) (fun e => HGA.out.2.2 (by injection e with e; exact e.symm))
    have y2 : (w14.setCell ⟨qb, 11, none⟩ (.slice a4 (cs.length + 1) c4)).cell? ⟨g, 2, none⟩ = some (.int .i64 (cn : Int)) := hg15.cell 2
    have f2 : (w14.setCell ⟨qb, 11, none⟩ (.slice a4 (cs.length + 1) c4)).frozen? ⟨g, 2, none⟩ = false := hg15.free 2
    clear hg15 hg14 hc14 aA aA14 aA15
    go_wp2_with fail
    go_ret2
    exact ⟨rfl, hX9⟩
  · replace aA := aA.next ((Since.refl wx71.drew).alloc (.cells #[.string ⟨a_s.toArray⟩, .string ⟨a_p.toArray⟩, .int .i64 a_n, .bool a_v0, .string ⟨a_l0.toArray⟩, .bool a_v1, .string ⟨a_l1.toArray⟩, .bool a_v2, .string ⟨a_l2.toArray⟩, .bool a_v3, .string ⟨a_l3.toArray⟩] 34))
    replace hc13 := hc13.next ((Since.refl wx71.drew).alloc (.cells #[.string ⟨a_s.toArray⟩, .string ⟨a_p.toArray⟩, .int .i64 a_n, .bool a_v0, .string ⟨a_l0.toArray⟩, .bool a_v1, .string ⟨a_l1.toArray⟩, .bool a_v2, .string ⟨a_l2.toArray⟩, .bool a_v3, .string ⟨a_l3.toArray⟩] 34))
    replace hg13 := hg13.next ((Since.refl wx71.drew).alloc (.cells #[.string ⟨a_s.toArray⟩, .string ⟨a_p.toArray⟩, .int .i64 a_n, .bool a_v0, .string ⟨a_l0.toArray⟩, .bool a_v1, .string ⟨a_l1.toArray⟩, .bool a_v2, .string ⟨a_l2.toArray⟩, .bool a_v3, .string ⟨a_l3.toArray⟩] 34))
    replace ho13 := own_since ho13 ((Since.refl wx71.drew).alloc (.cells #[.string ⟨a_s.toArray⟩, .string ⟨a_p.toArray⟩, .int .i64 a_n, .bool a_v0, .string ⟨a_l0.toArray⟩, .bool a_v1, .string ⟨a_l1.toArray⟩, .bool a_v2, .string ⟨a_l2.toArray⟩, .bool a_v3, .string ⟨a_l3.toArray⟩] 34))
    replace hN := hN.trans ((Since.refl wx71.drew).alloc (.cells #[.string ⟨a_s.toArray⟩, .string ⟨a_p.toArray⟩, .int .i64 a_n, .bool a_v0, .string ⟨a_l0.toArray⟩, .bool a_v1, .string ⟨a_l1.toArray⟩, .bool a_v2, .string ⟨a_l2.toArray⟩, .bool a_v3, .string ⟨a_l3.toArray⟩] 34))
    refine hx_make (i := 4) (oi := _) (.slice aa cs.length ac) (wx71.drew.alloc (.cells #[.string ⟨a_s.toArray⟩, .string ⟨a_p.toArray⟩, .int .i64 a_n, .bool a_v0, .string ⟨a_l0.toArray⟩, .bool a_v1, .string ⟨a_l1.toArray⟩, .bool a_v2, .string ⟨a_l2.toArray⟩, .bool a_v3, .string ⟨a_l3.toArray⟩] 34)) rfl rfl (by kernel_rfl) (by kernel_rfl) (ld_one rfl (by kernel_rfl) (by kernel_rfl) (wx71.drew.alloc (.cells #[.string ⟨a_s.toArray⟩, .string ⟨a_p.toArray⟩, .int .i64 a_n, .bool a_v0, .string ⟨a_l0.toArray⟩, .bool a_v1, .string ⟨a_l1.toArray⟩, .bool a_v2, .string ⟨a_l2.toArray⟩, .bool a_v3, .string ⟨a_l3.toArray⟩] 34)) (hc13.cell 11)) aA ?_
    refine hx_append (i := 7) (oi := _) (.tmp 60) (.tmp 62) 22 B 34 i5 (.agg #[.string ByteArray.empty, .string ByteArray.empty, .int .i64 0, .bool false, .string ByteArray.empty, .bool false, .string ByteArray.empty, .bool false, .string ByteArray.empty, .bool false, .string ByteArray.empty]) 11 136 (.slice aa cs.length ac) cs.length D _ (some ⟨wx71.drew.heap.size, 0, none⟩) 1 1 (#[.string ⟨a_s.toArray⟩, .string ⟨a_p.toArray⟩, .int .i64 a_n, .bool a_v0, .string ⟨a_l0.toArray⟩, .bool a_v1, .string ⟨a_l1.toArray⟩, .bool a_v2, .string ⟨a_l2.toArray⟩, .bool a_v3, .string ⟨a_l3.toArray⟩] : Array Value).toList rfl rfl (by kernel_rfl) (by kernel_rfl) rfl Tryd.underlying22 I5.out.1 I5.out.2.1 I5.out.2.2.1 I5.out.2.2.2 rfl (by decide) (by kernel_rfl) ho13 (by kernel_rfl) (reads_new _ #[.string ⟨a_s.toArray⟩, .string ⟨a_p.toArray⟩, .int .i64 a_n, .bool a_v0, .string ⟨a_l0.toArray⟩, .bool a_v1, .string ⟨a_l1.toArray⟩, .bool a_v2, .string ⟨a_l2.toArray⟩, .bool a_v3, .string ⟨a_l3.toArray⟩] _ 11 rfl) (by simp [Value.oneCell']) (by have := HPB.out; unfold maxLen; omega) (by have := HPB.out; omega) (Nat.le_trans hsz hN.size) ?_
    intro v14 w14 hown4 hg4 hat4
    obtain ⟨a4, c4, rfl⟩ := own_slice hown4
    have hX9 := HWD.out _ _ _ _ _ hS12 hgrow hset hN hg4 hown4 hat4
    have hg14 := hg13.grown hg4 HGA.out.2.1
    have hc14 := cel_own hc13 ho13 (by decide) hg4
    have aA14 := aA.far hg4 (fun e => by have := HLT.out.2.2 _ e.symm; omega)
    clear ho13 hg4 hat4 hown4 hN aA hg13 hc13
    have aA := aA14
    refine ⟨aA14, ?_⟩
    refine hx_take (i := 8) (oi := _) (v := .pointer (some ⟨qb, 0, none⟩)) rfl rfl hns (by kernel_rfl) (by kernel_rfl) hQ (by kernel_rfl) (fun _ _ => by kernel_rfl) aA ?_
    refine hx_take (i := 9) (oi := _) (v := .pointer (some ⟨qb, 11, none⟩)) rfl rfl hns (by kernel_rfl) (by kernel_rfl) hQ (by kernel_rfl) (fun _ _ => by kernel_rfl) aA ?_
    have aA15 : At (w14.setCell ⟨qb, 11, none⟩ (.slice a4 (cs.length + 1) c4)) w.heap.size 0 #[.string ⟨a_s.toArray⟩, .string ⟨a_p.toArray⟩, .int .i64 a_n, .bool a_v0, .string ⟨a_l0.toArray⟩, .bool a_v1, .string ⟨a_l1.toArray⟩, .bool a_v2, .string ⟨a_l2.toArray⟩, .bool a_v3, .string ⟨a_l3.toArray⟩] := aA14.far (grown_setCell w14 qb 11 (.slice a4 (cs.length + 1) c4)) (fun e => by injection e with e; have := HLT.out.2.1; omega)
    refine hx_store (i := 10) (oi := _) (w14.setCell ⟨qb, 11, none⟩ (.slice a4 (cs.length + 1) c4)) rfl rfl (by kernel_rfl) (by kernel_rfl) (st_atms rfl (by kernel_rfl) (by kernel_rfl) _ hc14 rfl) aA15 ?_
    refine wpAnyH_done (by kernel_rfl) ?_ _
    clear hns hQ
    simp only [List.set_cons_zero, List.set_cons_succ]
    have hg15 := hg14.grown (grown_setCell w14 qb 11 (.slice a4 (cs.length + 1) c4)) (fun e => HGA.out.2.2 (by injection e with e; exact e.symm))
    have y2 : (w14.setCell ⟨qb, 11, none⟩ (.slice a4 (cs.length + 1) c4)).cell? ⟨g, 2, none⟩ = some (.int .i64 (cn : Int)) := hg15.cell 2
    have f2 : (w14.setCell ⟨qb, 11, none⟩ (.slice a4 (cs.length + 1) c4)).frozen? ⟨g, 2, none⟩ = false := hg15.free 2
    clear hg15 hg14 hc14 aA aA14 aA15
    go_wp2_with fail
    go_ret2
    exact ⟨rfl, hX9⟩
end Go.Proofs.YtbgdljcgbhhfdaaDoor
