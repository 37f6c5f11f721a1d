/- Package table: a call's number. Package table: Tables in memory; at, Len, Count, Find. Package table: New, Find, Call. slices.Clone of ints and of atoms. Package table: Waiters, Answers. slices.Index, slices.Contains of ints. Package table: what stands of a call when a block of another kind, or of another call, grows. Package table: calls apart from one another; one call changed. Package table: a table and the blocks that it may change. -/
import Derived.Test.YtbgdljcgbhhfdaaGreatDoorCanR
import Derived.Test.YtbgdljcgbhhfdaaGreatDoorHeldM
import Derived.Test.YtbgdljcgbhhfdaaGreatDoorEq
import Derived.Test.YtbgdljcgbhhfdaaGreatDoorNest
namespace Go.Proofs.YtbgdljcgbhhfdaaGreatDoor
open Go.RowKit Go.Maps Go.WideMaps

instance : DecidableEq Atm := fun a b => decidable_of_iff (eqA a b = true) eqA_iff
theorem vN_len {j : Nat} (h : j < 4) : (vN j).length ≤ maxLen := by
  have h1 : Lib.decDigits j = [UInt8.ofNat (48 + j)] := by rw [Lib.decDigits, dif_pos (by omega)]
  unfold vN
  rw [h1]
  unfold maxLen
  simp
theorem canT_fit {ns : List (List UInt8)} {t : Tm} (hn : ns.length ≤ 4) (ht : t.2.length ≤ maxLen) : (canT ns t).2.length ≤ maxLen := by
  unfold canT
  split
  · refine vN_len ?_
    cases h : posF ns t.2 0 with
    | none => decide
    | some j => have := (posF_lt h).2.1; show j < 4; omega
  · exact ht
theorem canA_fits {a : Atm} (h : FitsN a) : FitsN (canA a) := by
  obtain ⟨⟨h1, h2, h3⟩, h4, h5⟩ := h
  have hn : (namesA a true).length ≤ 4 := Nat.le_trans (nmK_len a (countA a)) (countA_le a)
  refine ⟨⟨h1, h2, fun t ht => ?_⟩, h4, h5⟩
  unfold canA partC argsL at ht
  simp only [List.mem_cons, List.not_mem_nil, or_false] at ht
  have k0 := h3 a.2.2.2.1 (by simp [argsL])
  have k1 := h3 a.2.2.2.2.1 (by simp [argsL])
  have k2 := h3 a.2.2.2.2.2.1 (by simp [argsL])
  have k3 := h3 a.2.2.2.2.2.2 (by simp [argsL])
  rcases ht with rfl | rfl | rfl | rfl <;> split <;> first | assumption | exact canT_fit hn (by assumption)
theorem akinj {P : List Atm} (hP : ∀ y ∈ P, FitsN y) {a : Atm} (ha : FitsN a) : ∀ x ∈ P, keyA x = keyA a → x = a := fun x hx h => keyA_inj (hP x hx) ha h
theorem alook_i {o : Oper} {x y : Operand} {ev : Operand → Value} {b n : Nat} {P : List Atm} (a_s a_p : List UInt8) (a_n : Int) (a_v0 a_v1 a_v2 a_v3 : Bool) (a_l0 a_l1 a_l2 a_l3 : List UInt8) (hP : ∀ y ∈ P, FitsN y) (hf : FitsN ((a_s, a_p, a_n, (a_v0, a_l0), (a_v1, a_l1), (a_v2, a_l2), (a_v3, a_l3)) : Atm)) (hd : P.Nodup) {r : Option Nat} (hr : posF P ((a_s, a_p, a_n, (a_v0, a_l0), (a_v1, a_l1), (a_v2, a_l2), (a_v3, a_l3)) : Atm) 0 = r) (ho : o.op = Op.lookup 60 x y true) (hx : ev x = .map (some b)) (hy : ev y = .agg #[.string ⟨a_s.toArray⟩, .string ⟨a_p.toArray⟩, .int .i64 a_n, .bool a_v0, .string ⟨a_l0.toArray⟩, .bool a_v1, .string ⟨a_l1.toArray⟩, .bool a_v2, .string ⟨a_l2.toArray⟩, .bool a_v3, .string ⟨a_l3.toArray⟩]) (W : World) (h : AIdx W b n P) :
    (execOp ev o).run Tryz.prog W = .ok (.value (.tuple #[.int .i64 (posV r), .bool r.isSome])) W := by
  have h1 := kidx_look h aklaw Tryz.underlying60 (fun _ => trivial) ((a_s, a_p, a_n, (a_v0, a_l0), (a_v1, a_l1), (a_v2, a_l2), (a_v3, a_l3)) : Atm) hd (akinj hP hf) (keyOf_atom a_s a_p a_n a_v0 a_v1 a_v2 a_v3 a_l0 a_l1 a_l2 a_l3 hf)
  rw [hr] at h1
  simp only [execOp, ho, hx, hy]
  go_simp
set_option maxHeartbeats 4000000 in
set_option maxRecDepth 100000 in
theorem place_any (g mp n : Nat) (P : List Atm) (a_s a_p : List UInt8) (a_n : Int) (a_v0 a_v1 a_v2 a_v3 : Bool) (a_l0 a_l1 a_l2 a_l3 : List UInt8) (w : World) (hg : At w g 0 #[.map (some mp)]) (hM : AIdx w mp n P) (hP : ∀ y ∈ P, FitsN y) (hf : FitsN ((a_s, a_p, a_n, (a_v0, a_l0), (a_v1, a_l1), (a_v2, a_l2), (a_v3, a_l3)) : Atm)) (hd : P.Nodup) :
    Calls Tryz.prog 31 #[.pointer (some ⟨g, 0, none⟩), .agg #[.string ⟨a_s.toArray⟩, .string ⟨a_p.toArray⟩, .int .i64 a_n, .bool a_v0, .string ⟨a_l0.toArray⟩, .bool a_v1, .string ⟨a_l1.toArray⟩, .bool a_v2, .string ⟨a_l2.toArray⟩, .bool a_v3, .string ⟨a_l3.toArray⟩]] w fun e w' => e = .returned (.tuple #[.int .i64 (posV (posF P (canA ((a_s, a_p, a_n, (a_v0, a_l0), (a_v1, a_l1), (a_v2, a_l2), (a_v3, a_l3)) : Atm)) 0)), .bool (posF P (canA ((a_s, a_p, a_n, (a_v0, a_l0), (a_v1, a_l1), (a_v2, a_l2), (a_v3, a_l3)) : Atm)) 0).isSome]) ∧ Since w w' := by
  have hS : Since w (w.alloc (.cells #[.string ⟨a_s.toArray⟩, .string ⟨a_p.toArray⟩, .int .i64 a_n, .bool a_v0, .string ⟨a_l0.toArray⟩, .bool a_v1, .string ⟨a_l1.toArray⟩, .bool a_v2, .string ⟨a_l2.toArray⟩, .bool a_v3, .string ⟨a_l3.toArray⟩] 33)) := (Since.refl w).alloc _
  have aA : At (w.alloc (.cells #[.string ⟨a_s.toArray⟩, .string ⟨a_p.toArray⟩, .int .i64 a_n, .bool a_v0, .string ⟨a_l0.toArray⟩, .bool a_v1, .string ⟨a_l1.toArray⟩, .bool a_v2, .string ⟨a_l2.toArray⟩, .bool a_v3, .string ⟨a_l3.toArray⟩] 33)) w.heap.size 0 #[.string ⟨a_s.toArray⟩, .string ⟨a_p.toArray⟩, .int .i64 a_n, .bool a_v0, .string ⟨a_l0.toArray⟩, .bool a_v1, .string ⟨a_l1.toArray⟩, .bool a_v2, .string ⟨a_l2.toArray⟩, .bool a_v3, .string ⟨a_l3.toArray⟩] := Cel.at (heap_alloc_new w _)
  have gA := hg.next hS
  have hMn := hM.next hS
  have hfc := canA_fits hf
  have HCA := Lib.hid (fun W => canon_any a_s a_p a_n a_v0 a_v1 a_v2 a_v3 a_l0 a_l1 a_l2 a_l3 W hf.1)
  have HP := Lib.hid hP
  have HD := Lib.hid hd
  obtain ⟨c, hc⟩ : ∃ c, Hid (c = canA ((a_s, a_p, a_n, (a_v0, a_l0), (a_v1, a_l1), (a_v2, a_l2), (a_v3, a_l3)) : Atm)) := ⟨_, rfl⟩
  rw [← hc.out] at HCA hfc ⊢
  obtain ⟨c_s, c_p, c_n, ⟨c_v0, c_l0⟩, ⟨c_v1, c_l1⟩, ⟨c_v2, c_l2⟩, ⟨c_v3, c_l3⟩⟩ := c
  have HFC := Lib.hid hfc
  obtain ⟨r, hr⟩ : ∃ r, Hid (posF P ((c_s, c_p, c_n, (c_v0, c_l0), (c_v1, c_l1), (c_v2, c_l2), (c_v3, c_l3)) : Atm) 0 = r) := ⟨_, rfl⟩
  rw [hr.out]
  clear hg hM hP hd hfc hc hf
  go_enter Tryz.func31, Tryz.ntmps31
  go_upto_region 1 with (fail)
  generalize hw1 : w.alloc (.cells #[.string ⟨a_s.toArray⟩, .string ⟨a_p.toArray⟩, .int .i64 a_n, .bool a_v0, .string ⟨a_l0.toArray⟩, .bool a_v1, .string ⟨a_l1.toArray⟩, .bool a_v2, .string ⟨a_l2.toArray⟩, .bool a_v3, .string ⟨a_l3.toArray⟩] 33) = w1 at *
  clear hw1
  replace hS := hS.trans ((Since.refl w1).drew)
  replace gA := gA.next ((Since.refl w1).drew)
  replace aA := aA.next ((Since.refl w1).drew)
  replace hMn := hMn.next ((Since.refl w1).drew)
  refine hx_begin (S := fun W => (Since w W) ∧ (At W g 0 #[.map (some mp)]) ∧ (At W w.heap.size 0 #[.string ⟨a_s.toArray⟩, .string ⟨a_p.toArray⟩, .int .i64 a_n, .bool a_v0, .string ⟨a_l0.toArray⟩, .bool a_v1, .string ⟨a_l1.toArray⟩, .bool a_v2, .string ⟨a_l2.toArray⟩, .bool a_v3, .string ⟨a_l3.toArray⟩]) ∧ (AIdx W mp n P)) (by kernel_rfl) ⟨hS, gA, aA, hMn⟩ (by kernel_rfl) (fun _ _ _ _ _ h => h) (fun hns hQ => ?_)
  refine hx_take (i := 0) (oi := _) (v := .pointer (some ⟨g, 0, none⟩)) rfl rfl hns (by kernel_rfl) (by kernel_rfl) hQ (by kernel_rfl) (fun _ _ => by kernel_rfl) ⟨hS, gA, aA, hMn⟩ ?_
  refine hx_take (i := 1) (oi := _) (v := .pointer (some ⟨g, 0, none⟩)) rfl rfl hns (by kernel_rfl) (by kernel_rfl) hQ (by kernel_rfl) (fun _ _ => by kernel_rfl) ⟨hS, gA, aA, hMn⟩ ?_
  refine hx_take (i := 2) (oi := _) (v := .pointer (some ⟨g, 0, none⟩)) rfl rfl hns (by kernel_rfl) (by kernel_rfl) hQ (by kernel_rfl) (fun _ _ => by kernel_rfl) ⟨hS, gA, aA, hMn⟩ ?_
  refine hx_take (i := 3) (oi := _) (v := .map (some mp)) rfl rfl hns (by kernel_rfl) (by kernel_rfl) hQ (by kernel_rfl) (fun W hW => ld_one rfl (by kernel_rfl) (by kernel_rfl) W (hW.2.1 0 _ rfl)) ⟨hS, gA, aA, hMn⟩ ?_
  refine hx_take (i := 4) (oi := _) (v := .agg #[.string ⟨a_s.toArray⟩, .string ⟨a_p.toArray⟩, .int .i64 a_n, .bool a_v0, .string ⟨a_l0.toArray⟩, .bool a_v1, .string ⟨a_l1.toArray⟩, .bool a_v2, .string ⟨a_l2.toArray⟩, .bool a_v3, .string ⟨a_l3.toArray⟩]) rfl rfl hns (by kernel_rfl) (by kernel_rfl) hQ (by kernel_rfl) (fun W hW => ld_at rfl (by kernel_rfl) (by kernel_rfl) (by kernel_rfl) W (hW.2.2.1)) ⟨hS, gA, aA, hMn⟩ ?_
  refine hx_call (i := 5) (oi := _) 32 #[.agg #[.string ⟨a_s.toArray⟩, .string ⟨a_p.toArray⟩, .int .i64 a_n, .bool a_v0, .string ⟨a_l0.toArray⟩, .bool a_v1, .string ⟨a_l1.toArray⟩, .bool a_v2, .string ⟨a_l2.toArray⟩, .bool a_v3, .string ⟨a_l3.toArray⟩]] rfl rfl (by kernel_rfl) (by kernel_rfl) (by kernel_rfl) (HCA.out _) ?_
  rintro e wx61 ⟨rfl, hb⟩
  replace hS := hS.trans hb
  replace gA := gA.next hb
  replace aA := aA.next hb
  replace hMn := hMn.next hb
  clear hb
  refine ⟨_, rfl, ⟨hS, gA, aA, hMn⟩, ?_⟩
  refine hx_take (i := 6) (oi := _) (v := .tuple #[.int .i64 (posV r), .bool r.isSome]) rfl rfl hns (by kernel_rfl) (by kernel_rfl) hQ (by kernel_rfl) (fun W hW => alook_i c_s c_p c_n c_v0 c_v1 c_v2 c_v3 c_l0 c_l1 c_l2 c_l3 HP.out HFC.out HD.out hr.out rfl (by kernel_rfl) (by kernel_rfl) W (hW.2.2.2)) ⟨hS, gA, aA, hMn⟩ ?_
  refine hx_take (i := 7) (oi := _) (v := .tuple #[.int .i64 (posV r), .bool r.isSome]) rfl rfl hns (by kernel_rfl) (by kernel_rfl) hQ (by kernel_rfl) (fun _ _ => by kernel_rfl) ⟨hS, gA, aA, hMn⟩ ?_
  refine hx_take (i := 8) (oi := _) (v := .int .i64 (posV r)) rfl rfl hns (by kernel_rfl) (by kernel_rfl) hQ (by kernel_rfl) (fun _ _ => by kernel_rfl) ⟨hS, gA, aA, hMn⟩ ?_
  refine hx_take (i := 9) (oi := _) (v := .bool r.isSome) rfl rfl hns (by kernel_rfl) (by kernel_rfl) hQ (by kernel_rfl) (fun _ _ => by kernel_rfl) ⟨hS, gA, aA, hMn⟩ ?_
  refine hx_take (i := 10) (oi := _) (v := .int .i64 (posV r)) rfl rfl hns (by kernel_rfl) (by kernel_rfl) hQ (by kernel_rfl) (fun _ _ => by kernel_rfl) ⟨hS, gA, aA, hMn⟩ ?_
  refine hx_take (i := 11) (oi := _) (v := .bool r.isSome) rfl rfl hns (by kernel_rfl) (by kernel_rfl) hQ (by kernel_rfl) (fun _ _ => by kernel_rfl) ⟨hS, gA, aA, hMn⟩ ?_
  refine wpAnyH_done (by kernel_rfl) ?_ _
  clear hns hQ
  simp only [List.set_cons_zero, List.set_cons_succ]
  go_wp2_with fail
  go_ret2
  exact ⟨rfl, hS⟩
end Go.Proofs.YtbgdljcgbhhfdaaGreatDoor

namespace Go.Proofs.YtbgdljcgbhhfdaaGreatDoor
open Go.RowKit Go.Maps Go.WideMaps

/-- A call: its atom, its answers, who waits. -/
abbrev TCall := Atm × List Atm × List Int
def callC (c : TCall) (av : Value) (th : Nat) (wv : Value) : Array Value := (((atmC c.1).push av).push (.map (some th))).push wv
def intV1 (x : Int) : List Value := [.int .i64 x]
def cntS (S : List TCall) : Nat := (S.map fun c => c.2.1.length).sum
/-- Where a call lies. -/
structure CallP where
  b : Nat
  th : Nat
  nt : Nat
  av : Value
  wv : Value
def ptrV (p : CallP) : List Value := [.pointer (some ⟨p.b, 0, none⟩)]
structure CallAt (W : World) (B : Nat) (p : CallP) (c : TCall) : Prop where
  cel : Cel W p.b (callC c p.av p.th p.wv) 70
  ans : W.ownsRow B 33 11 p.av c.2.1.length (c.2.1.flatMap atmL)
  who : W.ownsRow B 3 1 p.wv c.2.2.length (c.2.2.flatMap intV1)
  map : AIdx W p.th p.nt c.2.1
  bb : B ≤ p.b
  bt : B ≤ p.th
  fit : FitsN c.1 ∧ ∀ a ∈ c.2.1, FitsN a
  nd : c.2.1.Nodup
  ln : p.nt ≤ c.2.1.length ∧ c.2.1.length ≤ 100000 ∧ c.2.2.length ≤ 100000
def CallP.apart (p q : CallP) : Prop := p.b ≠ q.b ∧ p.th ≠ q.th ∧ apartV p.av q.av ∧ apartV p.wv q.wv
/-- Tables in memory, from block B on. -/
structure TabAt (W : World) (B g mp np : Nat) (cv : Value) (R : List CallP) (S : List TCall) : Prop where
  cel : Cel W g #[.map (some mp), cv, .int .i64 (cntS S : Int)] 65
  map : AIdx W mp np (S.map fun c => c.1)
  row : W.ownsRow B 67 1 cv R.length (R.flatMap ptrV)
  len : R.length = S.length
  call : ∀ i (h : i < R.length) (h2 : i < S.length), CallAt W B R[i] S[i]
  apart : R.Pairwise CallP.apart
  mapart : ∀ p ∈ R, p.th ≠ mp
  bg : B ≤ g
  bm : B ≤ mp
  nd : (S.map fun c => c.1).Nodup
  ln : np ≤ S.length ∧ S.length ≤ 1000
theorem CallAt.next {W W' : World} {B : Nat} {p : CallP} {c : TCall} (h : CallAt W B p c) (hs : Since W W') : CallAt W' B p c :=
  ⟨h.cel.next hs, own_since h.ans hs, own_since h.who hs, h.map.next hs, h.bb, h.bt, h.fit, h.nd, h.ln⟩
theorem TabAt.next {W W' : World} {B g mp np : Nat} {cv : Value} {R : List CallP} {S : List TCall} (h : TabAt W B g mp np cv R S) (hs : Since W W') : TabAt W' B g mp np cv R S :=
  ⟨h.cel.next hs, h.map.next hs, own_since h.row hs, h.len, fun i h1 h2 => (h.call i h1 h2).next hs, h.apart, h.mapart, h.bg, h.bm, h.nd, h.ln⟩
theorem TabAt.fits {W : World} {B g mp np : Nat} {cv : Value} {R : List CallP} {S : List TCall} (h : TabAt W B g mp np cv R S) : ∀ y ∈ S.map (fun c => c.1), FitsN y := by
  intro y hy
  obtain ⟨c, hc, rfl⟩ := List.mem_map.1 hy
  obtain ⟨i, hi, rfl⟩ := List.getElem_of_mem hc
  exact (h.call i (by rw [h.len]; exact hi) hi).fit.1
theorem TabAt.slice {W : World} {B g mp np : Nat} {cv : Value} {R : List CallP} {S : List TCall} (h : TabAt W B g mp np cv R S) : ∃ a c, cv = .slice a S.length c := by
  obtain ⟨a, c, e⟩ := own_slice h.row
  exact ⟨a, c, by rw [e, h.len]⟩
/-- The cell that leads to a call. -/
theorem TabAt.ptr {W : World} {B g mp np : Nat} {a : Option Addr} {n cc : Nat} {R : List CallP} {S : List TCall} (h : TabAt W B g mp np (.slice a n cc) R S) {i : Nat} (hi : i < R.length) : ∃ b o, a = some ⟨b, o, none⟩ ∧ W.cell? ⟨b, o + i, none⟩ = some (.pointer (some ⟨R[i].b, 0, none⟩)) := by
  rcases row_of_own h.row with ⟨_, h2, _⟩ | ⟨b, o, c', h1, _, h3⟩
  · omega
  · injection h1 with e1 e2 e3
    refine ⟨b, o, e1, ?_⟩
    have hl : (R.flatMap ptrV).length = R.length := by rw [flat_len (K := 1) (f := ptrV) (fun _ => rfl), Nat.mul_one]
    have h4 := h3 i (by rw [hl]; exact hi)
    rw [h4]
    congr 1
    have h5 := flat_at (f := ptrV) (K := 1) (fun _ => rfl) R i hi 0 (by omega)
    rw [Nat.mul_one, Nat.add_zero, List.getElem?_eq_getElem (by rw [hl]; exact hi)] at h5
    injection h5
set_option maxHeartbeats 1000000 in
theorem tlen_any {B g mp np : Nat} {cv : Value} {R : List CallP} {S : List TCall} (w : World) (h : TabAt w B g mp np cv R S) :
    Calls Tryz.prog 19 #[.pointer (some ⟨g, 0, none⟩)] w fun e w' => e = .returned (.int .i64 (S.length : Int)) ∧ Since w w' := by
  obtain ⟨a, c, rfl⟩ := h.slice
  have g1 : w.cell? ⟨g, 1, none⟩ = some (.slice a S.length c) := h.cel.cell 1
  clear h
  go_enter Tryz.func19, Tryz.ntmps19
  go_wp2_with fail
  go_ret
  exact ⟨rfl, Since.refl _⟩
set_option maxHeartbeats 1000000 in
theorem tcount_any {B g mp np : Nat} {cv : Value} {R : List CallP} {S : List TCall} (w : World) (h : TabAt w B g mp np cv R S) :
    Calls Tryz.prog 20 #[.pointer (some ⟨g, 0, none⟩)] w fun e w' => e = .returned (.int .i64 (cntS S : Int)) ∧ Since w w' := by
  have g2 : w.cell? ⟨g, 2, none⟩ = some (.int .i64 (cntS S : Int)) := h.cel.cell 2
  clear h
  go_enter Tryz.func20, Tryz.ntmps20
  go_wp2_with fail
  go_ret
  exact ⟨rfl, Since.refl _⟩
set_option maxHeartbeats 2000000 in
theorem tat_yes {B g mp np : Nat} {cv : Value} {R : List CallP} {S : List TCall} (i : Nat) (w : World) (h : TabAt w B g mp np cv R S) (hi : i < R.length) :
    Calls Tryz.prog 35 #[.pointer (some ⟨g, 0, none⟩), .int .i64 (i : Int)] w fun e w' => e = .returned (.pointer (some ⟨R[i].b, 0, none⟩)) ∧ Since w w' := by
  obtain ⟨a, c, rfl⟩ := h.slice
  have g1 : w.cell? ⟨g, 1, none⟩ = some (.slice a S.length c) := h.cel.cell 1
  have hl := h.len
  obtain ⟨b, o, rfl, hp⟩ := h.ptr hi
  have h1 : (i : Int) < (S.length : Int) := by omega
  have h2 : ¬ (S.length : Int) ≤ (i : Int) := by omega
  have h3 : (0 : Int) ≤ (i : Int) := by omega
  have h4 : ¬ (i : Int) < 0 := by omega
  obtain ⟨q, hq⟩ : ∃ q, Hid (q = R[i].b) := ⟨R[i].b, rfl⟩
  rw [← hq.out] at hp ⊢
  clear h hl hi hq
  go_enter Tryz.func35, Tryz.ntmps35
  go_wp2_with fail
  go_ret
  exact ⟨rfl, Since.refl _⟩
set_option maxHeartbeats 2000000 in
theorem tat_no {B g mp np : Nat} {cv : Value} {R : List CallP} {S : List TCall} (i : Int) (w : World) (h : TabAt w B g mp np cv R S) (hi : i < 0 ∨ (S.length : Int) ≤ i) :
    Calls Tryz.prog 35 #[.pointer (some ⟨g, 0, none⟩), .int .i64 i] w fun e w' => e = .returned (.pointer none) ∧ Since w w' := by
  obtain ⟨a, c, rfl⟩ := h.slice
  have g1 : w.cell? ⟨g, 1, none⟩ = some (.slice a S.length c) := h.cel.cell 1
  clear h
  by_cases h0 : i < 0
  · go_enter Tryz.func35, Tryz.ntmps35
    go_wp2_with fail
    go_ret
    exact ⟨rfl, Since.refl _⟩
  · have h2 : (S.length : Int) ≤ i := by omega
    clear hi
    go_enter Tryz.func35, Tryz.ntmps35
    go_wp2_with fail
    go_ret
    exact ⟨rfl, Since.refl _⟩
end Go.Proofs.YtbgdljcgbhhfdaaGreatDoor

namespace Go.Proofs.YtbgdljcgbhhfdaaGreatDoor
open Go.RowKit Go.Maps Go.WideMaps

theorem TabAt.head {W : World} {B g mp np : Nat} {cv : Value} {R : List CallP} {S : List TCall} (h : TabAt W B g mp np cv R S) : At W g 0 #[.map (some mp)] := by
  intro j u hu
  have hj : j = 0 := by have := (Array.getElem?_eq_some_iff.1 hu).1; simp at this; omega
  subst hj
  have h1 := h.cel.cell 0
  rw [Nat.zero_add, h1, ← hu]; rfl
set_option maxHeartbeats 2000000 in
theorem tnew_any (w : World) : Calls Tryz.prog 6 #[] w fun e w' => ∃ g mp, e = .returned (.pointer (some ⟨g, 0, none⟩)) ∧ TabAt w' w.heap.size g mp 0 (.slice none 0 0) [] [] ∧ Since w w' := by
  have hmm := @run_makeMap Tryz.prog
  have hS : Since w ((w.alloc (.map #[] 0)).alloc (.cells #[.map (some w.heap.size), .slice none 0 0, .int .i64 0] 65)) := ((Since.refl _).alloc _).alloc _
  have hC : Cel ((w.alloc (.map #[] 0)).alloc (.cells #[.map (some w.heap.size), .slice none 0 0, .int .i64 0] 65)) (w.heap.size + 1) #[.map (some w.heap.size), .slice none 0 0, .int .i64 0] 65 := by
    have h := heap_alloc_new (w.alloc (.map #[] 0)) (.cells #[.map (some w.heap.size), .slice none 0 0, .int .i64 0] 65)
    rw [World.size_alloc] at h
    exact h
  have hM : AIdx ((w.alloc (.map #[] 0)).alloc (.cells #[.map (some w.heap.size), .slice none 0 0, .int .i64 0] 65)) w.heap.size 0 [] := (kidx_made _ _ w).next ((Since.refl _).alloc _)
  have HT : Hid (TabAt ((w.alloc (.map #[] 0)).alloc (.cells #[.map (some w.heap.size), .slice none 0 0, .int .i64 0] 65)) w.heap.size (w.heap.size + 1) w.heap.size 0 (.slice none 0 0) [] []) :=
    ⟨hC, hM, World.ownsRow_nil _ _ _ _, rfl, fun i h => absurd h (by simp), List.Pairwise.nil, (fun p hp => by cases hp), Nat.le_succ _, Nat.le_refl _, List.nodup_nil, Nat.le_refl _, by simp⟩
  clear hC hM
  go_enter Tryz.func6, Tryz.ntmps6
  go_wp2_with fail
  go_ret
  exact ⟨_, _, rfl, HT.out, hS⟩
set_option maxHeartbeats 4000000 in
set_option maxRecDepth 100000 in
theorem tfind_any {B g mp np : Nat} {cv : Value} {R : List CallP} {S : List TCall} (a_s a_p : List UInt8) (a_n : Int) (a_v0 a_v1 a_v2 a_v3 : Bool) (a_l0 a_l1 a_l2 a_l3 : List UInt8) (w : World) (h : TabAt w B g mp np cv R S) (hf : FitsN ((a_s, a_p, a_n, (a_v0, a_l0), (a_v1, a_l1), (a_v2, a_l2), (a_v3, a_l3)) : Atm)) :
    Calls Tryz.prog 15 #[.pointer (some ⟨g, 0, none⟩), .agg #[.string ⟨a_s.toArray⟩, .string ⟨a_p.toArray⟩, .int .i64 a_n, .bool a_v0, .string ⟨a_l0.toArray⟩, .bool a_v1, .string ⟨a_l1.toArray⟩, .bool a_v2, .string ⟨a_l2.toArray⟩, .bool a_v3, .string ⟨a_l3.toArray⟩]] w fun e w' => e = .returned (.tuple #[.int .i64 (posV (posF (S.map fun c => c.1) (canA ((a_s, a_p, a_n, (a_v0, a_l0), (a_v1, a_l1), (a_v2, a_l2), (a_v3, a_l3)) : Atm)) 0)), .bool (posF (S.map fun c => c.1) (canA ((a_s, a_p, a_n, (a_v0, a_l0), (a_v1, a_l1), (a_v2, a_l2), (a_v3, a_l3)) : Atm)) 0).isSome]) ∧ Since w w' := by
  have hS : Since w (w.alloc (.cells #[.string ⟨a_s.toArray⟩, .string ⟨a_p.toArray⟩, .int .i64 a_n, .bool a_v0, .string ⟨a_l0.toArray⟩, .bool a_v1, .string ⟨a_l1.toArray⟩, .bool a_v2, .string ⟨a_l2.toArray⟩, .bool a_v3, .string ⟨a_l3.toArray⟩] 33)) := (Since.refl w).alloc _
  have aA : At (w.alloc (.cells #[.string ⟨a_s.toArray⟩, .string ⟨a_p.toArray⟩, .int .i64 a_n, .bool a_v0, .string ⟨a_l0.toArray⟩, .bool a_v1, .string ⟨a_l1.toArray⟩, .bool a_v2, .string ⟨a_l2.toArray⟩, .bool a_v3, .string ⟨a_l3.toArray⟩] 33)) w.heap.size 0 #[.string ⟨a_s.toArray⟩, .string ⟨a_p.toArray⟩, .int .i64 a_n, .bool a_v0, .string ⟨a_l0.toArray⟩, .bool a_v1, .string ⟨a_l1.toArray⟩, .bool a_v2, .string ⟨a_l2.toArray⟩, .bool a_v3, .string ⟨a_l3.toArray⟩] := Cel.at (heap_alloc_new w _)
  have hT := h.next hS
  have HF := Lib.hid hf
  obtain ⟨r, hr⟩ : ∃ r, Hid (r = posF (S.map fun c => c.1) (canA ((a_s, a_p, a_n, (a_v0, a_l0), (a_v1, a_l1), (a_v2, a_l2), (a_v3, a_l3)) : Atm)) 0) := ⟨_, rfl⟩
  have HPL := Lib.hid (fun W (hT : TabAt W B g mp np cv R S) => place_any g mp np (S.map fun c => c.1) a_s a_p a_n a_v0 a_v1 a_v2 a_v3 a_l0 a_l1 a_l2 a_l3 W hT.head hT.map hT.fits HF.out hT.nd)
  rw [← hr.out] at HPL ⊢
  clear h hf hr
  go_enter Tryz.func15, Tryz.ntmps15
  go_upto_region 3 with (fail)
  generalize hw1 : w.alloc (.cells #[.string ⟨a_s.toArray⟩, .string ⟨a_p.toArray⟩, .int .i64 a_n, .bool a_v0, .string ⟨a_l0.toArray⟩, .bool a_v1, .string ⟨a_l1.toArray⟩, .bool a_v2, .string ⟨a_l2.toArray⟩, .bool a_v3, .string ⟨a_l3.toArray⟩] 33) = w1 at *
  clear hw1
  replace hS := hS.trans ((Since.refl w1).drew)
  replace aA := aA.next ((Since.refl w1).drew)
  replace hT := hT.next ((Since.refl w1).drew)
  refine hx_begin (S := fun W => (Since w W) ∧ (At W w.heap.size 0 #[.string ⟨a_s.toArray⟩, .string ⟨a_p.toArray⟩, .int .i64 a_n, .bool a_v0, .string ⟨a_l0.toArray⟩, .bool a_v1, .string ⟨a_l1.toArray⟩, .bool a_v2, .string ⟨a_l2.toArray⟩, .bool a_v3, .string ⟨a_l3.toArray⟩]) ∧ (TabAt W B g mp np cv R S)) (by kernel_rfl) ⟨hS, aA, hT⟩ (by kernel_rfl) (fun _ _ _ _ _ h => h) (fun hns hQ => ?_)
  refine hx_take (i := 0) (oi := _) (v := .pointer (some ⟨g, 0, none⟩)) rfl rfl hns (by kernel_rfl) (by kernel_rfl) hQ (by kernel_rfl) (fun _ _ => by kernel_rfl) ⟨hS, aA, hT⟩ ?_
  refine hx_take (i := 1) (oi := _) (v := .pointer (some ⟨g, 0, none⟩)) rfl rfl hns (by kernel_rfl) (by kernel_rfl) hQ (by kernel_rfl) (fun _ _ => by kernel_rfl) ⟨hS, aA, hT⟩ ?_
  refine hx_take (i := 2) (oi := _) (v := .pointer (some ⟨g, 0, none⟩)) rfl rfl hns (by kernel_rfl) (by kernel_rfl) hQ (by kernel_rfl) (fun _ _ => by kernel_rfl) ⟨hS, aA, hT⟩ ?_
  refine hx_take (i := 3) (oi := _) (v := .agg #[.string ⟨a_s.toArray⟩, .string ⟨a_p.toArray⟩, .int .i64 a_n, .bool a_v0, .string ⟨a_l0.toArray⟩, .bool a_v1, .string ⟨a_l1.toArray⟩, .bool a_v2, .string ⟨a_l2.toArray⟩, .bool a_v3, .string ⟨a_l3.toArray⟩]) rfl rfl hns (by kernel_rfl) (by kernel_rfl) hQ (by kernel_rfl) (fun W hW => ld_at rfl (by kernel_rfl) (by kernel_rfl) (by kernel_rfl) W (hW.2.1)) ⟨hS, aA, hT⟩ ?_
  refine hx_call (i := 4) (oi := _) 31 #[.pointer (some ⟨g, 0, none⟩), .agg #[.string ⟨a_s.toArray⟩, .string ⟨a_p.toArray⟩, .int .i64 a_n, .bool a_v0, .string ⟨a_l0.toArray⟩, .bool a_v1, .string ⟨a_l1.toArray⟩, .bool a_v2, .string ⟨a_l2.toArray⟩, .bool a_v3, .string ⟨a_l3.toArray⟩]] rfl rfl (by kernel_rfl) (by kernel_rfl) (by kernel_rfl) (HPL.out _ hT) ?_
  rintro e wx61 ⟨rfl, hb⟩
  replace hS := hS.trans hb
  replace aA := aA.next hb
  replace hT := hT.next hb
  clear hb
  refine ⟨_, rfl, ⟨hS, aA, hT⟩, ?_⟩
  refine hx_take (i := 5) (oi := _) (v := .int .i64 (posV r)) rfl rfl hns (by kernel_rfl) (by kernel_rfl) hQ (by kernel_rfl) (fun _ _ => by kernel_rfl) ⟨hS, aA, hT⟩ ?_
  refine hx_take (i := 6) (oi := _) (v := .bool r.isSome) rfl rfl hns (by kernel_rfl) (by kernel_rfl) hQ (by kernel_rfl) (fun _ _ => by kernel_rfl) ⟨hS, aA, hT⟩ ?_
  refine hx_take (i := 7) (oi := _) (v := .int .i64 (posV r)) rfl rfl hns (by kernel_rfl) (by kernel_rfl) hQ (by kernel_rfl) (fun _ _ => by kernel_rfl) ⟨hS, aA, hT⟩ ?_
  refine hx_take (i := 8) (oi := _) (v := .bool r.isSome) rfl rfl hns (by kernel_rfl) (by kernel_rfl) hQ (by kernel_rfl) (fun _ _ => by kernel_rfl) ⟨hS, aA, hT⟩ ?_
  refine wpAnyH_done (by kernel_rfl) ?_ _
  clear hns hQ
  simp only [List.set_cons_zero, List.set_cons_succ]
  go_wp2_with fail
  go_ret2
  exact ⟨rfl, hS⟩
set_option maxHeartbeats 4000000 in
set_option maxRecDepth 100000 in
theorem tcall_yes {B g mp np : Nat} {cv : Value} {R : List CallP} {S : List TCall} (i : Nat) (w : World) (h : TabAt w B g mp np cv R S) (hi : i < S.length) :
    Calls Tryz.prog 17 #[.pointer (some ⟨g, 0, none⟩), .int .i64 (i : Int)] w fun e w' => e = .returned (.tuple #[.agg (atmC (S[i]).1), .bool true]) ∧ Since w w' := by
  have hS1 : Since w (w.alloc (.cells #[.string ⟨#[]⟩, .string ⟨#[]⟩, .int .i64 0, .bool false, .string ⟨#[]⟩, .bool false, .string ⟨#[]⟩, .bool false, .string ⟨#[]⟩, .bool false, .string ⟨#[]⟩] 33)) := (Since.refl _).alloc _
  have K2 : Hid (Cel (w.alloc (.cells #[.string ⟨#[]⟩, .string ⟨#[]⟩, .int .i64 0, .bool false, .string ⟨#[]⟩, .bool false, .string ⟨#[]⟩, .bool false, .string ⟨#[]⟩, .bool false, .string ⟨#[]⟩] 33)) w.heap.size #[.string ⟨#[]⟩, .string ⟨#[]⟩, .int .i64 0, .bool false, .string ⟨#[]⟩, .bool false, .string ⟨#[]⟩, .bool false, .string ⟨#[]⟩, .bool false, .string ⟨#[]⟩] 33) := heap_alloc_new w _
  have hi2 : i < R.length := by rw [h.len]; exact hi
  have HAT := Lib.hid (tat_yes i _ (h.next hS1) hi2)
  have hcl := (h.call i hi2 hi).cel
  obtain ⟨q, hq⟩ : ∃ q, Hid (q = R[i]) := ⟨R[i], rfl⟩
  obtain ⟨⟨⟨x_s, x_p, x_n, ⟨x_v0, x_l0⟩, ⟨x_v1, x_l1⟩, ⟨x_v2, x_l2⟩, ⟨x_v3, x_l3⟩⟩, xs, ws⟩, hx⟩ : ∃ x, Hid (x = S[i]) := ⟨S[i], rfl⟩
  rw [← hq.out, ← hx.out] at hcl
  rw [← hq.out] at HAT
  rw [← hx.out]
  obtain ⟨qb, qt, qn, qa, qw⟩ := q
  simp only at HAT hcl
  have HCL : Hid (Cel w qb #[.string ⟨x_s.toArray⟩, .string ⟨x_p.toArray⟩, .int .i64 x_n, .bool x_v0, .string ⟨x_l0.toArray⟩, .bool x_v1, .string ⟨x_l1.toArray⟩, .bool x_v2, .string ⟨x_l2.toArray⟩, .bool x_v3, .string ⟨x_l3.toArray⟩, qa, .map (some qt), qw] 70) := hcl
  have HH := Lib.hid (h.next hS1)
  clear h hi hi2 hcl hq hx
  go_enter Tryz.func17, Tryz.ntmps17
  go_wp2_with fail
  refine HAT.out.mono ?_
  rintro e w2 ⟨rfl, hb2⟩
  have hS2 := hS1.trans hb2
  have K2b := Lib.hid (K2.out.next hb2)
  have hC2 := HCL.out.next hS2
  have x0 : w2.cell? ⟨qb, 0, none⟩ = some (.string ⟨x_s.toArray⟩) := hC2.cell 0
  have x1 : w2.cell? ⟨qb, 1, none⟩ = some (.string ⟨x_p.toArray⟩) := hC2.cell 1
  have x2 : w2.cell? ⟨qb, 2, none⟩ = some (.int .i64 x_n) := hC2.cell 2
  have x3 : w2.cell? ⟨qb, 3, none⟩ = some (.bool x_v0) := hC2.cell 3
  have x4 : w2.cell? ⟨qb, 4, none⟩ = some (.string ⟨x_l0.toArray⟩) := hC2.cell 4
  have x5 : w2.cell? ⟨qb, 5, none⟩ = some (.bool x_v1) := hC2.cell 5
  have x6 : w2.cell? ⟨qb, 6, none⟩ = some (.string ⟨x_l1.toArray⟩) := hC2.cell 6
  have x7 : w2.cell? ⟨qb, 7, none⟩ = some (.bool x_v2) := hC2.cell 7
  have x8 : w2.cell? ⟨qb, 8, none⟩ = some (.string ⟨x_l2.toArray⟩) := hC2.cell 8
  have x9 : w2.cell? ⟨qb, 9, none⟩ = some (.bool x_v3) := hC2.cell 9
  have x10 : w2.cell? ⟨qb, 10, none⟩ = some (.string ⟨x_l3.toArray⟩) := hC2.cell 10
  have hone : Hid (((#[.string ⟨x_s.toArray⟩, .string ⟨x_p.toArray⟩, .int .i64 x_n, .bool x_v0, .string ⟨x_l0.toArray⟩, .bool x_v1, .string ⟨x_l1.toArray⟩, .bool x_v2, .string ⟨x_l2.toArray⟩, .bool x_v3, .string ⟨x_l3.toArray⟩] : Array Value).all (·.oneCell')) = true) := by show _ = _; simp [Value.oneCell']
  clear hC2 HCL K2 HAT
  go_wp2_with (refine wpList_store_row rfl 33 (.tmp 4) (.tmp 15) rfl w.heap.size #[.string ⟨x_s.toArray⟩, .string ⟨x_p.toArray⟩, .int .i64 x_n, .bool x_v0, .string ⟨x_l0.toArray⟩, .bool x_v1, .string ⟨x_l1.toArray⟩, .bool x_v2, .string ⟨x_l2.toArray⟩, .bool x_v3, .string ⟨x_l3.toArray⟩] rfl rfl 33 #[.string ⟨#[]⟩, .string ⟨#[]⟩, .int .i64 0, .bool false, .string ⟨#[]⟩, .bool false, .string ⟨#[]⟩, .bool false, .string ⟨#[]⟩, .bool false, .string ⟨#[]⟩] K2b.out ainfoC rfl hone.out ?_)
  have hbx : Box (w2.setRow w.heap.size #[.string ⟨x_s.toArray⟩, .string ⟨x_p.toArray⟩, .int .i64 x_n, .bool x_v0, .string ⟨x_l0.toArray⟩, .bool x_v1, .string ⟨x_l1.toArray⟩, .bool x_v2, .string ⟨x_l2.toArray⟩, .bool x_v3, .string ⟨x_l3.toArray⟩]) w.heap.size ((x_s, x_p, x_n, (x_v0, x_l0), (x_v1, x_l1), (x_v2, x_l2), (x_v3, x_l3)) : Atm) := cel_boxA (T := 33) (K2b.out.row (atmC ((x_s, x_p, x_n, (x_v0, x_l0), (x_v1, x_l1), (x_v2, x_l2), (x_v3, x_l3)) : Atm)))
  obtain ⟨e0, e1, e2, e3, e4, e5, e6, e7, e8, e9, e10⟩ := hbx.all
  clear x0 x1 x2 x3 x4 x5 x6 x7 x8 x9 x10 hone K2b
  go_wp2_with fail
  refine bodyPost_ret (v := .tuple #[.agg #[.string ⟨x_s.toArray⟩, .string ⟨x_p.toArray⟩, .int .i64 x_n, .bool x_v0, .string ⟨x_l0.toArray⟩, .bool x_v1, .string ⟨x_l1.toArray⟩, .bool x_v2, .string ⟨x_l2.toArray⟩, .bool x_v3, .string ⟨x_l3.toArray⟩], .bool true]) (by simp [results, Tryz.results17, go_sem, e0, e1, e2, e3, e4, e5, e6, e7, e8, e9, e10]) rfl ?_
  exact ⟨rfl, since_setRow hS2 (Nat.le_refl _) _⟩
set_option maxHeartbeats 4000000 in
set_option maxRecDepth 100000 in
theorem tcall_no {B g mp np : Nat} {cv : Value} {R : List CallP} {S : List TCall} (i : Int) (w : World) (h : TabAt w B g mp np cv R S) (hi : i < 0 ∨ (S.length : Int) ≤ i) :
    Calls Tryz.prog 17 #[.pointer (some ⟨g, 0, none⟩), .int .i64 i] w fun e w' => e = .returned (.tuple #[.agg #[.string ⟨#[]⟩, .string ⟨#[]⟩, .int .i64 0, .bool false, .string ⟨#[]⟩, .bool false, .string ⟨#[]⟩, .bool false, .string ⟨#[]⟩, .bool false, .string ⟨#[]⟩], .bool false]) ∧ Since w w' := by
  have hS1 : Since w (w.alloc (.cells #[.string ⟨#[]⟩, .string ⟨#[]⟩, .int .i64 0, .bool false, .string ⟨#[]⟩, .bool false, .string ⟨#[]⟩, .bool false, .string ⟨#[]⟩, .bool false, .string ⟨#[]⟩] 33)) := (Since.refl _).alloc _
  have K2 : Hid (Cel (w.alloc (.cells #[.string ⟨#[]⟩, .string ⟨#[]⟩, .int .i64 0, .bool false, .string ⟨#[]⟩, .bool false, .string ⟨#[]⟩, .bool false, .string ⟨#[]⟩, .bool false, .string ⟨#[]⟩] 33)) w.heap.size #[.string ⟨#[]⟩, .string ⟨#[]⟩, .int .i64 0, .bool false, .string ⟨#[]⟩, .bool false, .string ⟨#[]⟩, .bool false, .string ⟨#[]⟩, .bool false, .string ⟨#[]⟩] 33) := heap_alloc_new w _
  have HAT := Lib.hid (tat_no i _ (h.next hS1) hi)
  clear h hi
  go_enter Tryz.func17, Tryz.ntmps17
  go_wp2_with fail
  refine HAT.out.mono ?_
  rintro e w2 ⟨rfl, hb2⟩
  have hS2 := hS1.trans hb2
  have K2b := Lib.hid (K2.out.next hb2)
  have hone : Hid (((#[.string ⟨#[]⟩, .string ⟨#[]⟩, .int .i64 0, .bool false, .string ⟨#[]⟩, .bool false, .string ⟨#[]⟩, .bool false, .string ⟨#[]⟩, .bool false, .string ⟨#[]⟩] : Array Value).all (·.oneCell')) = true) := by show _ = _; simp [Value.oneCell']
  clear K2 HAT
  go_wp2_with (refine wpList_store_row rfl 33 (.tmp 4) (.tmp 16) rfl w.heap.size #[.string ⟨#[]⟩, .string ⟨#[]⟩, .int .i64 0, .bool false, .string ⟨#[]⟩, .bool false, .string ⟨#[]⟩, .bool false, .string ⟨#[]⟩, .bool false, .string ⟨#[]⟩] rfl rfl 33 #[.string ⟨#[]⟩, .string ⟨#[]⟩, .int .i64 0, .bool false, .string ⟨#[]⟩, .bool false, .string ⟨#[]⟩, .bool false, .string ⟨#[]⟩, .bool false, .string ⟨#[]⟩] K2b.out ainfoC rfl hone.out ?_)
  have hbx : Box (w2.setRow w.heap.size #[.string ⟨#[]⟩, .string ⟨#[]⟩, .int .i64 0, .bool false, .string ⟨#[]⟩, .bool false, .string ⟨#[]⟩, .bool false, .string ⟨#[]⟩, .bool false, .string ⟨#[]⟩]) w.heap.size zeroAC := cel_boxA (T := 33) (K2b.out.row (atmC zeroAC))
  obtain ⟨e0, e1, e2, e3, e4, e5, e6, e7, e8, e9, e10⟩ := hbx.all
  clear hone K2b
  go_wp2_with fail
  refine bodyPost_ret (v := .tuple #[.agg #[.string ⟨#[]⟩, .string ⟨#[]⟩, .int .i64 0, .bool false, .string ⟨#[]⟩, .bool false, .string ⟨#[]⟩, .bool false, .string ⟨#[]⟩, .bool false, .string ⟨#[]⟩], .bool false]) (by simp [results, Tryz.results17, go_sem, zeroAC, e0, e1, e2, e3, e4, e5, e6, e7, e8, e9, e10]) rfl ?_
  exact ⟨rfl, since_setRow hS2 (Nat.le_refl _) _⟩
end Go.Proofs.YtbgdljcgbhhfdaaGreatDoor

namespace Go.Proofs.YtbgdljcgbhhfdaaGreatDoor
open Go.RowKit

def intL (x : Int) : List Value := [.int .i64 x]
theorem int_reads {W : World} {a : Option Addr} {n c : Nat} {L : List Int} (h : IRow W (.slice a n c) L) : Reads W W.heap.size 1 a n (L.flatMap intL) :=
  krow_reads (f := intL) (by decide) (fun _ => rfl) (fun b o x hx j u hu => by
    match j, hu with
    | 0, hu => have e : Value.int .i64 x = u := by simpa [intL] using hu
               rw [← e]; exact hx) h
theorem intL_one (x : Int) : ∀ u ∈ intL x, u.oneCell' = true := by simp [intL, Value.oneCell']
theorem run_nilints (a : Option Addr) (l c : Nat) (W : World) : (binOp .eql 54 (.slice a l c) (.slice none 0 0)).run Tryz.prog W = .ok (.bool a.isNone) W := by
  simp only [binOp]
  simp [run_equal_slice_nil W 54 _ a l c Tryz.underlying54]
theorem info_ints : (Tryz.prog.info? 3).map (fun i => (i.zero, i.size, i.bytes)) = some (some (.int .i64 0), 1, 8) := by kernel_rfl
section
attribute [local go_sem ↓] run_nilints
set_option maxHeartbeats 1000000 in
set_option maxRecDepth 100000 in
theorem clone_ints (v : Value) (L : List Int) (w : World) (hv : IRow w v L) (hm : L.length ≤ 1000000) :
    Calls Tryz.prog 41 #[v] w fun e w' => ∃ v', e = .returned v' ∧ w'.ownsRow w.heap.size 3 1 v' L.length (L.flatMap intL) ∧ Since w w' := by
  obtain ⟨a, c, rfl⟩ := hv.slice
  cases a with
  | none =>
    have hL : L = [] := by
      rcases Nat.eq_zero_or_pos L.length with h | h
      · exact List.eq_nil_of_length_eq_zero h
      · obtain ⟨b, o, h1, _⟩ := hv.get h; cases h1
    subst hL
    go_enter Tryz.func41, Tryz.ntmps41
    go_wp2_with fail
    go_ret
    exact ⟨_, rfl, World.ownsRow_nil _ _ _ _, Since.refl _⟩
  | some ad =>
    obtain ⟨i0, hi0, hz0, hz1, hz2⟩ := info_parts info_ints
    have HI := Lib.hid (And.intro hi0 (And.intro hz0 (And.intro hz1 hz2)))
    have HR := Lib.hid (int_reads (inext hv ((Since.refl w).alloc (.cells #[] 3))))
    clear hi0 hz0 hz1 hz2 hv
    go_enter Tryz.func41, Tryz.ntmps41
    go_wp2_with (at_builtin; refine wpList_append_any _ rfl (.tmp 5) (.tmp 6) 54 rfl w.heap.size 3 i0 (.int .i64 0) 1 8 Tryz.underlying54 HI.out.1 HI.out.2.1 HI.out.2.2.1 HI.out.2.2.2 rfl (by decide) _ 0 [] rfl (own_made0 w 3 1) _ (some ad) L.length c (L.flatMap intL) rfl HR.out ?c1 ?c2 ?c3 ?c4 ?_)
    case c1 => exact flat_oneK intL_one L
    case c2 => unfold maxLen; omega
    case c3 => omega
    case c4 => simp
    intro v' w' hown hgrow _
    have hB : Since w w' := Below.grown ((Since.refl w).alloc _) hgrow (by simp) (own_ge (own_made0 w 3 1))
    clear HR hgrow
    go_wp2_with fail
    go_ret
    refine ⟨_, rfl, ?_, hB⟩
    simpa using hown
end
theorem run_nilatms (a : Option Addr) (l c : Nat) (W : World) : (binOp .eql 48 (.slice a l c) (.slice none 0 0)).run Tryz.prog W = .ok (.bool a.isNone) W := by
  simp only [binOp]
  simp [run_equal_slice_nil W 48 _ a l c Tryz.underlying48]
theorem info_atms : (Tryz.prog.info? 33).map (fun i => (i.zero, i.size, i.bytes)) = some (some (.agg #[.string ByteArray.empty, .string ByteArray.empty, .int .i64 0, .bool false, .string ByteArray.empty, .bool false, .string ByteArray.empty, .bool false, .string ByteArray.empty, .bool false, .string ByteArray.empty]), 11, 136) := by kernel_rfl
section
attribute [local go_sem ↓] run_nilatms
set_option maxHeartbeats 1000000 in
set_option maxRecDepth 100000 in
theorem clone_atms (v : Value) (L : List Atm) (w : World) (hv : ARow w v L) (hm : L.length ≤ 1000000) :
    Calls Tryz.prog 42 #[v] w fun e w' => ∃ v', e = .returned v' ∧ w'.ownsRow w.heap.size 33 11 v' L.length (L.flatMap atmL) ∧ Since w w' := by
  obtain ⟨a, c, rfl⟩ := hv.slice
  cases a with
  | none =>
    have hL : L = [] := by
      rcases Nat.eq_zero_or_pos L.length with h | h
      · exact List.eq_nil_of_length_eq_zero h
      · obtain ⟨b, o, h1, _⟩ := hv.get h; cases h1
    subst hL
    go_enter Tryz.func42, Tryz.ntmps42
    go_wp2_with fail
    go_ret
    exact ⟨_, rfl, World.ownsRow_nil _ _ _ _, Since.refl _⟩
  | some ad =>
    obtain ⟨i0, hi0, hz0, hz1, hz2⟩ := info_parts info_atms
    have HI := Lib.hid (And.intro hi0 (And.intro hz0 (And.intro hz1 hz2)))
    have HR := Lib.hid (atm_reads (anext hv ((Since.refl w).alloc (.cells #[] 33))))
    clear hi0 hz0 hz1 hz2 hv
    go_enter Tryz.func42, Tryz.ntmps42
    go_wp2_with (at_builtin; refine wpList_append_any _ rfl (.tmp 5) (.tmp 6) 48 rfl w.heap.size 33 i0 (.agg #[.string ByteArray.empty, .string ByteArray.empty, .int .i64 0, .bool false, .string ByteArray.empty, .bool false, .string ByteArray.empty, .bool false, .string ByteArray.empty, .bool false, .string ByteArray.empty]) 11 136 Tryz.underlying48 HI.out.1 HI.out.2.1 HI.out.2.2.1 HI.out.2.2.2 rfl (by decide) _ 0 [] rfl (own_made0 w 33 11) _ (some ad) L.length c (L.flatMap atmL) rfl HR.out ?c1 ?c2 ?c3 ?c4 ?_)
    case c1 => exact flat_oneK atmL_one L
    case c2 => unfold maxLen; omega
    case c3 => omega
    case c4 => simp
    intro v' w' hown hgrow _
    have hB : Since w w' := Below.grown ((Since.refl w).alloc _) hgrow (by simp) (own_ge (own_made0 w 33 11))
    clear HR hgrow
    go_wp2_with fail
    go_ret
    refine ⟨_, rfl, ?_, hB⟩
    simpa using hown
end
end Go.Proofs.YtbgdljcgbhhfdaaGreatDoor

namespace Go.Proofs.YtbgdljcgbhhfdaaGreatDoor
open Go.RowKit

theorem own_irow1 {W : World} {B : Nat} {v : Value} {L : List Int} (h : W.ownsRow B 3 1 v L.length (L.flatMap intV1)) : IRow W v L := by
  obtain ⟨a, c, rfl⟩ := own_slice h
  rcases row_of_own h with ⟨h1, h2, h3⟩ | ⟨b, o, c', h1, h2, h3⟩
  · injection h1 with e1 e2 e3
    subst e1 e3
    have : L = [] := List.eq_nil_of_length_eq_zero h2
    subst this
    exact KRow.nil _ _
  · injection h1 with e1 e2 e3
    subst e1 e3
    refine ⟨_, _, rfl, h2, fun h0 => ⟨b, o, rfl, fun k hk => ?_⟩⟩
    have hl : (L.flatMap intV1).length = L.length := by rw [flat_len (K := 1) (f := intV1) (fun _ => rfl), Nat.mul_one]
    show W.cell? ⟨b, o + k * 1, none⟩ = _
    rw [Nat.mul_one, h3 k (by rw [hl]; exact hk)]
    have h5 := flat_at (f := intV1) (K := 1) (fun _ => rfl) L k hk 0 (by omega)
    rw [Nat.mul_one, Nat.add_zero, List.getElem?_eq_getElem (by rw [hl]; exact hk)] at h5
    exact h5
theorem own_arow1 {W : World} {B : Nat} {v : Value} {L : List Atm} (h : W.ownsRow B 33 11 v L.length (L.flatMap atmL)) : ARow W v L := by
  obtain ⟨a, c, rfl⟩ := own_slice h
  rcases row_of_own h with ⟨h1, h2, h3⟩ | ⟨b, o, c', h1, h2, h3⟩
  · injection h1 with e1 e2 e3
    subst e1 e3
    have : L = [] := List.eq_nil_of_length_eq_zero h2
    subst this
    exact KRow.nil _ _
  · injection h1 with e1 e2 e3
    subst e1 e3
    refine ⟨_, _, rfl, h2, fun h0 => ⟨b, o, rfl, fun k hk j u hu => ?_⟩⟩
    have hj : j < 11 := (Array.getElem?_eq_some_iff.1 hu).1
    have hl : k * 11 + j < (L.flatMap atmL).length := by
      rw [flat_len (K := 11) (f := atmL) (fun _ => rfl)]
      omega
    rw [Nat.add_assoc, h3 (k * 11 + j) hl, ← List.getElem?_eq_getElem hl, flat_at (f := atmL) (fun _ => rfl) L k hk j hj, ← hu]
    exact Array.getElem?_toList
theorem flat_i1 (L : List Int) : L.flatMap intL = L.flatMap intV1 := rfl
set_option maxHeartbeats 4000000 in
theorem twait_yes {B g mp np : Nat} {cv : Value} {R : List CallP} {S : List TCall} (i : Nat) (w : World) (h : TabAt w B g mp np cv R S) (hi : i < S.length) :
    Calls Tryz.prog 23 #[.pointer (some ⟨g, 0, none⟩), .int .i64 (i : Int)] w fun e w' => ∃ v', e = .returned v' ∧ w'.ownsRow w.heap.size 3 1 v' (S[i]).2.2.length ((S[i]).2.2.flatMap intL) ∧ Since w w' := by
  have hi2 : i < R.length := by rw [h.len]; exact hi
  have HAT := Lib.hid (tat_yes i w h hi2)
  have hcl := (h.call i hi2 hi).cel
  have hrow := (h.call i hi2 hi).who
  have hln := (h.call i hi2 hi).ln
  obtain ⟨L, hL⟩ : ∃ L, Hid (L = (S[i]).2.2) := ⟨(S[i]).2.2, rfl⟩
  have hc0 : w.cell? ⟨R[i].b, 13, none⟩ = some R[i].wv := (hcl.cell 13)
  rw [← hL.out] at hrow ⊢
  have hll : L.length ≤ 1000000 := by rw [hL.out]; omega
  obtain ⟨q, hq⟩ : ∃ q, Hid (q = R[i]) := ⟨R[i], rfl⟩
  rw [← hq.out] at HAT hc0 hrow
  obtain ⟨qb, qt, qn, qa, qw⟩ := q
  simp only at HAT hc0 hrow
  obtain ⟨va, vc, rfl⟩ := own_slice hrow
  have HRW : Hid (IRow w (.slice va L.length vc) L) := own_irow1 hrow
  clear h hi hi2 hcl hrow hln hL hq
  go_enter Tryz.func23, Tryz.ntmps23
  go_wp2_with fail
  refine HAT.out.mono ?_
  rintro e w2 ⟨rfl, hb2⟩
  have c2 := hb2.cell hc0
  go_wp2_with fail
  refine (clone_ints (.slice va L.length vc) L w2 (inext HRW.out hb2) hll).mono ?_
  rintro e w3 ⟨v', rfl, hO, hb3⟩
  clear c2 hc0 HAT
  go_wp2_with fail
  go_ret
  exact ⟨_, rfl, own_base hO hb2.size, hb2.trans hb3⟩
set_option maxHeartbeats 4000000 in
theorem twait_no {B g mp np : Nat} {cv : Value} {R : List CallP} {S : List TCall} (i : Int) (w : World) (h : TabAt w B g mp np cv R S) (hi : i < 0 ∨ (S.length : Int) ≤ i) :
    Calls Tryz.prog 23 #[.pointer (some ⟨g, 0, none⟩), .int .i64 i] w fun e w' => e = .returned (.slice none 0 0) ∧ Since w w' := by
  have HAT := Lib.hid (tat_no i w h hi)
  clear h hi
  go_enter Tryz.func23, Tryz.ntmps23
  go_wp2_with fail
  refine HAT.out.mono ?_
  rintro e w2 ⟨rfl, hb2⟩
  go_wp2_with fail
  go_ret
  exact ⟨rfl, hb2⟩
set_option maxHeartbeats 4000000 in
theorem tans_yes {B g mp np : Nat} {cv : Value} {R : List CallP} {S : List TCall} (i : Nat) (w : World) (h : TabAt w B g mp np cv R S) (hi : i < S.length) :
    Calls Tryz.prog 26 #[.pointer (some ⟨g, 0, none⟩), .int .i64 (i : Int)] w fun e w' => ∃ v', e = .returned v' ∧ w'.ownsRow w.heap.size 33 11 v' (S[i]).2.1.length ((S[i]).2.1.flatMap atmL) ∧ Since w w' := by
  have hi2 : i < R.length := by rw [h.len]; exact hi
  have HAT := Lib.hid (tat_yes i w h hi2)
  have hcl := (h.call i hi2 hi).cel
  have hrow := (h.call i hi2 hi).ans
  have hln := (h.call i hi2 hi).ln
  obtain ⟨L, hL⟩ : ∃ L, Hid (L = (S[i]).2.1) := ⟨(S[i]).2.1, rfl⟩
  have hc0 : w.cell? ⟨R[i].b, 11, none⟩ = some R[i].av := (hcl.cell 11)
  rw [← hL.out] at hrow ⊢
  have hll : L.length ≤ 1000000 := by rw [hL.out]; omega
  obtain ⟨q, hq⟩ : ∃ q, Hid (q = R[i]) := ⟨R[i], rfl⟩
  rw [← hq.out] at HAT hc0 hrow
  obtain ⟨qb, qt, qn, qa, qw⟩ := q
  simp only at HAT hc0 hrow
  obtain ⟨va, vc, rfl⟩ := own_slice hrow
  have HRW : Hid (ARow w (.slice va L.length vc) L) := own_arow1 hrow
  clear h hi hi2 hcl hrow hln hL hq
  go_enter Tryz.func26, Tryz.ntmps26
  go_wp2_with fail
  refine HAT.out.mono ?_
  rintro e w2 ⟨rfl, hb2⟩
  have c2 := hb2.cell hc0
  go_wp2_with fail
  refine (clone_atms (.slice va L.length vc) L w2 (anext HRW.out hb2) hll).mono ?_
  rintro e w3 ⟨v', rfl, hO, hb3⟩
  clear c2 hc0 HAT
  go_wp2_with fail
  go_ret
  exact ⟨_, rfl, own_base hO hb2.size, hb2.trans hb3⟩
set_option maxHeartbeats 4000000 in
theorem tans_no {B g mp np : Nat} {cv : Value} {R : List CallP} {S : List TCall} (i : Int) (w : World) (h : TabAt w B g mp np cv R S) (hi : i < 0 ∨ (S.length : Int) ≤ i) :
    Calls Tryz.prog 26 #[.pointer (some ⟨g, 0, none⟩), .int .i64 i] w fun e w' => e = .returned (.slice none 0 0) ∧ Since w w' := by
  have HAT := Lib.hid (tat_no i w h hi)
  clear h hi
  go_enter Tryz.func26, Tryz.ntmps26
  go_wp2_with fail
  refine HAT.out.mono ?_
  rintro e w2 ⟨rfl, hb2⟩
  go_wp2_with fail
  go_ret
  exact ⟨rfl, hb2⟩
end Go.Proofs.YtbgdljcgbhhfdaaGreatDoor

namespace Go.Proofs.YtbgdljcgbhhfdaaGreatDoor
open Go.RowKit

def posI : Option Nat → Int
  | some j => (j : Int)
  | none => -1
set_option maxHeartbeats 2000000 in
theorem index_ints (v : Value) (L : List Int) (x : Int) (w : World) (hv : IRow w v L) (hm : L.length ≤ 1000000) :
    Calls Tryz.prog 58 #[v, .int .i64 x] w fun e w' => e = .returned (.int .i64 (posI (posF L x 0))) ∧ Since w w' := by
  obtain ⟨a, c, rfl⟩ := hv.slice
  have HV := Lib.hid hv
  obtain ⟨R, hR⟩ : ∃ R, Hid (R = posF L x 0) := ⟨_, rfl⟩
  have hR0 : Hid (R = posF (L.drop 0) x 0) := by show _ = _; rw [List.drop_zero]; exact hR.out
  rw [← hR.out]
  clear hv hR
  go_enter Tryz.func58, Tryz.ntmps58
  go_wp2_with fail
  go_loopw [5, 8] (fun _ m wr => ∃ k : Nat, k ≤ L.length ∧ m = .int .i64 (k : Int) ∧ Since w wr ∧ Hid (R = posF (L.drop k) x k)) (fun _ m _ => L.length - (intOf m).toNat)
  case atStart => exact ⟨0, by omega, rfl, Since.refl _, hR0⟩
  case round =>
  clear hR0
  obtain ⟨k, hk, rfl, hS, hres⟩ := hrel
  by_cases hlt : k < L.length
  · have hlt2 : (k : Int) < (L.length : Int) := by omega
    have hlt0 : (0 : Int) ≤ (k : Int) := by omega
    obtain ⟨b, o, rfl, hc, hat⟩ := (inext HV.out hS).get (by omega)
    have d := hat k hlt
    simp only [IntAt, Nat.mul_one] at d
    have hst := hres.out
    rw [List.drop_eq_getElem_cons hlt, posF] at hst
    obtain ⟨y, hy⟩ : ∃ y, Hid (y = L[k]) := ⟨L[k], rfl⟩
    rw [← hy.out] at d hst
    clear hat hy hres
    by_cases hxy : y = x
    · subst hxy
      rw [if_pos rfl] at hst
      subst hst
      go_wp2_with fail
      go_ret
      exact ⟨rfl, hS⟩
    · rw [if_neg hxy] at hst
      have HST := Lib.hid hst
      have hne : (x == y) = false := beq_false_of_ne (fun e => hxy e.symm)
      clear hst
      go_wp2_with fail
      go_roundw
      case rel => exact ⟨k + 1, by omega, by go_num, hS, HST.out⟩
      case measure => simp [intOf]; omega
  · have hlt2 : ¬ (k : Int) < (L.length : Int) := by omega
    have hR : R = none := by rw [hres.out, List.drop_eq_nil_of_le (by omega)]; rfl
    subst hR
    clear hres
    go_wp2_with fail
    go_ret
    exact ⟨rfl, hS⟩
set_option maxHeartbeats 1000000 in
theorem contains_ints (v : Value) (L : List Int) (x : Int) (w : World) (hv : IRow w v L) (hm : L.length ≤ 1000000) :
    Calls Tryz.prog 40 #[v, .int .i64 x] w fun e w' => e = .returned (.bool (posF L x 0).isSome) ∧ Since w w' := by
  have HI := Lib.hid (index_ints v L x w hv hm)
  obtain ⟨R, hR⟩ : ∃ R, Hid (R = posF L x 0) := ⟨_, rfl⟩
  rw [← hR.out] at HI ⊢
  clear hv hR
  go_enter Tryz.func40, Tryz.ntmps40
  go_wp2_with fail
  refine HI.out.mono ?_
  rintro e w1 ⟨rfl, hb⟩
  clear HI
  cases R with
  | none =>
    simp only [posI]
    go_wp2_with fail
    go_ret
    exact ⟨rfl, hb⟩
  | some j =>
    simp only [posI]
    have hj : (0 : Int) ≤ (j : Int) := by omega
    go_wp2_with fail
    go_ret
    exact ⟨rfl, hb⟩
end Go.Proofs.YtbgdljcgbhhfdaaGreatDoor

namespace Go.Proofs.YtbgdljcgbhhfdaaGreatDoor
open Go.RowKit Go.Maps Go.WideMaps

theorem CallAt.grown {W W' : World} {B : Nat} {p : CallP} {c : TCall} {row : Option Nat} (h : CallAt W B p c) (hg : W.grownBy W' row) (h1 : some p.b ≠ row) (h2 : some p.th ≠ row) (h3 : p.av.ownBlock = none ∨ p.av.ownBlock ≠ row) (h4 : p.wv.ownBlock = none ∨ p.wv.ownBlock ≠ row) : CallAt W' B p c :=
  ⟨h.cel.grown hg h1, h.ans.kept hg h3, h.who.kept hg h4, h.map.far hg h2, h.bb, h.bt, h.fit, h.nd, h.ln⟩
/-- A map's block is no row's. -/
theorem kidx_own_ne {α : Type} {k : TypeId} {kl : α → Lit} {W : World} {b n : Nat} {P : List α} {B : Nat} {e : TypeId} {K m : Nat} {v : Value} {xs : List Value} (h : KIdx k kl W b n P) (hr : W.ownsRow B e K v m xs) : some b ≠ v.ownBlock := by
  intro hh
  obtain ⟨c1, f1, k1⟩ := Lib.ownsRow_kind hr b hh.symm
  obtain ⟨es, clock, hb, _⟩ := h
  rw [hb] at k1
  injection k1 with k1
  cases k1
/-- A map's block is no box's. -/
theorem kidx_cel_ne {α : Type} {k : TypeId} {kl : α → Lit} {W : World} {b n : Nat} {P : List α} {g : Nat} {cs : Array Value} {T : TypeId} (h : KIdx k kl W b n P) (hc : Cel W g cs T) : b ≠ g := by
  rintro rfl
  obtain ⟨es, clock, hb, _⟩ := h
  unfold Cel at hc
  rw [hb] at hc
  injection hc with hc
  cases hc
/-- A box's block is no row's of another kind. -/
theorem cel_own_ne {W : World} {g : Nat} {cs : Array Value} {T : TypeId} {B : Nat} {e : TypeId} {K m : Nat} {v : Value} {xs : List Value} (hc : Cel W g cs T) (hr : W.ownsRow B e K v m xs) (he : e ≠ T) : some g ≠ v.ownBlock := by
  intro hh
  rcases own_cel_ne hr hc he with h0 | h0
  · rw [h0] at hh; cases hh
  · exact h0 hh.symm
/-- Another call's row of ints grows. -/
theorem CallAt.grown_who {W W' : World} {B : Nat} {p q : CallP} {c d : TCall} (h : CallAt W B p c) (hq : CallAt W B q d) (hpq : CallP.apart p q) (hg : W.grownBy W' q.wv.ownBlock) : CallAt W' B p c :=
  h.grown hg (cel_own_ne h.cel hq.who (by decide)) (kidx_own_ne h.map hq.who) (own_kind_apart h.ans hq.who (by decide)) hpq.2.2.2
/-- Another call's row of atoms grows. -/
theorem CallAt.grown_ans {W W' : World} {B : Nat} {p q : CallP} {c d : TCall} (h : CallAt W B p c) (hq : CallAt W B q d) (hpq : CallP.apart p q) (hg : W.grownBy W' q.av.ownBlock) : CallAt W' B p c :=
  h.grown hg (cel_own_ne h.cel hq.ans (by decide)) (kidx_own_ne h.map hq.ans) hpq.2.2.1 (own_kind_apart h.who hq.ans (by decide))
/-- Another call's box is stored to. -/
theorem CallAt.grown_box {W W' : World} {B : Nat} {p q : CallP} {c d : TCall} (h : CallAt W B p c) (hq : CallAt W B q d) (hpq : CallP.apart p q) (hg : W.grownBy W' (some q.b)) : CallAt W' B p c :=
  h.grown hg (fun e => hpq.1 (by injection e)) (fun e => kidx_cel_ne h.map hq.cel (by injection e)) (own_cel_ne h.ans hq.cel (by decide)) (own_cel_ne h.who hq.cel (by decide))
/-- Another call's map grows. -/
theorem CallAt.grown_map {W W' : World} {B : Nat} {p q : CallP} {c d : TCall} (h : CallAt W B p c) (hq : CallAt W B q d) (hpq : CallP.apart p q) (hg : W.grownBy W' (some q.th)) : CallAt W' B p c :=
  h.grown hg (fun e => kidx_cel_ne hq.map h.cel (by injection e with e; exact e.symm)) (fun e => hpq.2.1 (by injection e)) (.inr fun e => kidx_own_ne hq.map h.ans e.symm) (.inr fun e => kidx_own_ne hq.map h.who e.symm)
end Go.Proofs.YtbgdljcgbhhfdaaGreatDoor

namespace Go.Proofs.YtbgdljcgbhhfdaaGreatDoor
open Go.RowKit Go.Maps Go.WideMaps

theorem apartV.symm {u v : Value} (h : apartV u v) : apartV v u := by
  unfold apartV at h ⊢
  cases hv : v.ownBlock with
  | none => exact .inl rfl
  | some b =>
    refine .inr fun e => ?_
    rcases h with h | h
    · rw [h] at e; cases e
    · rw [hv] at h; exact h e.symm
theorem CallP.apart.symm {p q : CallP} (h : CallP.apart p q) : CallP.apart q p := ⟨fun e => h.1 e.symm, fun e => h.2.1 e.symm, h.2.2.1.symm, h.2.2.2.symm⟩
theorem TabAt.apart_of {W : World} {B g mp np : Nat} {cv : Value} {R : List CallP} {S : List TCall} (h : TabAt W B g mp np cv R S) {i j : Nat} (hi : i < R.length) (hj : j < R.length) (hne : i ≠ j) : CallP.apart R[i] R[j] := by
  rcases Nat.lt_or_gt_of_ne hne with hl | hl
  · exact List.pairwise_iff_getElem.1 h.apart i j hi hj hl
  · exact (List.pairwise_iff_getElem.1 h.apart j i hj hi hl).symm
theorem pairwise_set {R : List CallP} (h : R.Pairwise CallP.apart) (i : Nat) (q : CallP) (hq : ∀ j (hj : j < R.length), j ≠ i → CallP.apart R[j] q) : (R.set i q).Pairwise CallP.apart := by
  rw [List.pairwise_iff_getElem] at h ⊢
  intro a b ha hb hab
  rw [List.length_set] at ha hb
  rw [List.getElem_set, List.getElem_set]
  by_cases h1 : i = a
  · rw [if_pos h1, if_neg (by omega)]
    exact (hq b hb (by omega)).symm
  · rw [if_neg h1]
    by_cases h2 : i = b
    · rw [if_pos h2]; exact hq a ha (fun e => h1 e.symm)
    · rw [if_neg h2]; exact h a b ha hb hab
/-- One call changed: the others stand. -/
theorem TabAt.set {W W' : World} {B g mp np : Nat} {cv : Value} {R : List CallP} {S : List TCall} (h : TabAt W B g mp np cv R S) {i : Nat} (hi : i < R.length) {q : CallP} {c : TCall} (hb : q.b = R[i].b)
    (hcel : Cel W' g #[.map (some mp), cv, .int .i64 (cntS (S.set i c) : Int)] 65) (hmap : AIdx W' mp np (S.map fun c => c.1)) (hrow : W'.ownsRow B 67 1 cv R.length (R.flatMap ptrV))
    (hc1 : ∀ (h2 : i < S.length), c.1 = (S[i]).1) (hself : CallAt W' B q c) (hother : ∀ j (hj : j < R.length) (h2 : j < S.length), j ≠ i → CallAt W' B R[j] S[j]) (hap : ∀ j (hj : j < R.length), j ≠ i → CallP.apart R[j] q) (hmp : q.th ≠ mp) :
    TabAt W' B g mp np cv (R.set i q) (S.set i c) := by
  have hl := h.len
  have hS : (S.set i c).map (fun c => c.1) = S.map fun c => c.1 := by
    apply List.ext_getElem
    · simp
    · intro k h1 h2
      rw [List.getElem_map, List.getElem_map, List.getElem_set]
      split
      · next e => subst e; exact hc1 (by rw [← hl]; exact hi)
      · rfl
  have hR : (R.set i q).flatMap ptrV = R.flatMap ptrV := by
    have e : (R.set i q).map (fun p => p.b) = R.map fun p => p.b := by
      apply List.ext_getElem
      · simp
      · intro k h1 h2
        rw [List.getElem_map, List.getElem_map, List.getElem_set]
        split
        · next e => subst e; exact hb
        · rfl
    have f : ∀ L : List CallP, L.flatMap ptrV = (L.map fun p => p.b).flatMap fun b => [Value.pointer (some ⟨b, 0, none⟩)] := by
      intro L
      induction L with
      | nil => rfl
      | cons p r ih => rw [List.flatMap_cons, ih]; rfl
    rw [f, f, e]
  refine ⟨hcel, by rw [hS]; exact hmap, by rw [hR, List.length_set]; exact hrow, by rw [List.length_set, List.length_set]; exact hl, fun j h1 h2 => ?_, pairwise_set h.apart i q hap, fun p hp => ?_, h.bg, h.bm, by rw [hS]; exact h.nd, by rw [List.length_set]; exact h.ln⟩
  · rw [List.getElem_set, List.getElem_set]
    rw [List.length_set] at h1 h2
    by_cases e : i = j
    · rw [if_pos e, if_pos e]; exact hself
    · rw [if_neg e, if_neg e]; exact hother j h1 h2 (fun e2 => e e2.symm)
  · rcases List.mem_or_eq_of_mem_set hp with h1 | h1
    · exact h.mapart p h1
    · rw [h1]; exact hmp
end Go.Proofs.YtbgdljcgbhhfdaaGreatDoor

namespace Go.Proofs.YtbgdljcgbhhfdaaGreatDoor
open Go.RowKit Go.Maps Go.WideMaps

/-- The blocks of a table. -/
def TabB (g mp : Nat) (cv : Value) (R : List CallP) (b : Nat) : Prop := b = g ∨ b = mp ∨ cv.ownBlock = some b ∨ ∃ p ∈ R, b = p.b ∨ b = p.th ∨ p.av.ownBlock = some b ∨ p.wv.ownBlock = some b
theorem own_stand {w w' : World} {B : Nat} {e : TypeId} {K n : Nat} {v : Value} {xs : List Value} (h : w.ownsRow B e K v n xs) (hb : ∀ b, v.ownBlock = some b → w'.heap[b]? = w.heap[b]?) : w'.ownsRow B e K v n xs := by
  refine ⟨h.1, ?_⟩
  rcases h.2 with hn | ⟨g, cap, cur, rfl, hbg, hg, rest⟩
  · exact .inl hn
  · exact .inr ⟨g, cap, cur, rfl, hbg, (hb g rfl).trans hg, rest⟩
theorem cel_stand {w w' : World} {g : Nat} {cs : Array Value} {T : TypeId} (h : Cel w g cs T) (hb : w'.heap[g]? = w.heap[g]?) : Cel w' g cs T := hb.trans h
theorem kidx_stand {α : Type} {k : TypeId} {kl : α → Lit} {W W' : World} {b n : Nat} {P : List α} (h : KIdx k kl W b n P) (hs : W'.heap[b]? = W.heap[b]?) : KIdx k kl W' b n P := by
  obtain ⟨es, clock, hb, r⟩ := h
  exact ⟨es, clock, hs.trans hb, r⟩
theorem TabAt.stand {W W' : World} {B g mp np : Nat} {cv : Value} {R : List CallP} {S : List TCall} (h : TabAt W B g mp np cv R S) (hk : ∀ b, TabB g mp cv R b → W'.heap[b]? = W.heap[b]?) : TabAt W' B g mp np cv R S := by
  refine ⟨cel_stand h.cel (hk g (.inl rfl)), kidx_stand h.map (hk mp (.inr (.inl rfl))), own_stand h.row (fun b hb => hk b (.inr (.inr (.inl hb)))), h.len, fun i h1 h2 => ?_, h.apart, h.mapart, h.bg, h.bm, h.nd, h.ln⟩
  have hc := h.call i h1 h2
  have hm : R[i] ∈ R := List.getElem_mem h1
  have hx : ∀ b, (b = R[i].b ∨ b = R[i].th ∨ R[i].av.ownBlock = some b ∨ R[i].wv.ownBlock = some b) → W'.heap[b]? = W.heap[b]? := fun b hb => hk b (.inr (.inr (.inr ⟨R[i], hm, hb⟩)))
  exact ⟨cel_stand hc.cel (hx _ (.inl rfl)), own_stand hc.ans (fun b hb => hx b (.inr (.inr (.inl hb)))), own_stand hc.who (fun b hb => hx b (.inr (.inr (.inr hb)))), kidx_stand hc.map (hx _ (.inr (.inl rfl))), hc.bb, hc.bt, hc.fit, hc.nd, hc.ln⟩
theorem TabAt.inside {W : World} {B g mp np : Nat} {cv : Value} {R : List CallP} {S : List TCall} (h : TabAt W B g mp np cv R S) : ∀ b, TabB g mp cv R b → B ≤ b ∧ b < W.heap.size := by
  intro b hb
  rcases hb with rfl | rfl | hb | ⟨p, hp, hb⟩
  · exact ⟨h.bg, h.cel.lt⟩
  · exact ⟨h.bm, h.map.lt⟩
  · exact h.row.lt b hb
  · obtain ⟨i, hi, rfl⟩ := List.getElem_of_mem hp
    have hc := h.call i hi (by rw [← h.len]; exact hi)
    rcases hb with rfl | rfl | hb | hb
    · exact ⟨hc.bb, hc.cel.lt⟩
    · exact ⟨hc.bt, hc.map.lt⟩
    · exact hc.ans.lt b hb
    · exact hc.who.lt b hb
/-- But for the blocks of Z, and what is new, nothing has changed. -/
structure Keep (Z : Nat → Prop) (W W' : World) : Prop where
  os : W'.os = W.os
  tape : W'.tape = W.tape
  output : W'.output = W.output
  size : W.heap.size ≤ W'.heap.size
  block : ∀ k, k < W.heap.size → ¬ Z k → W'.heap[k]? = W.heap[k]?
/-- Z, and the blocks that are new. -/
def Zx (Z : Nat → Prop) (W W' : World) (b : Nat) : Prop := Z b ∨ (W.heap.size ≤ b ∧ b < W'.heap.size)
theorem Keep.refl (Z : Nat → Prop) (W : World) : Keep Z W W := ⟨rfl, rfl, rfl, Nat.le_refl _, fun _ _ _ => rfl⟩
theorem Keep.of_since {Z : Nat → Prop} {W W' : World} (h : Since W W') : Keep Z W W' := ⟨h.os, h.tape, h.output, h.size, fun k hk _ => h.block k hk⟩
theorem Keep.of_grown {Z : Nat → Prop} {W W' : World} {row : Option Nat} (h : W.grownBy W' row) (hr : ∀ b, row = some b → Z b) : Keep Z W W' := ⟨h.os, h.tape, h.output, h.size, fun k hk hz => h.block k hk (fun e => hz (hr k e.symm))⟩
theorem Keep.trans {Z Z' : Nat → Prop} {a b c : World} (h : Keep Z a b) (k : Keep Z' b c) (hz : ∀ x, Z' x → Z x ∨ a.heap.size ≤ x) : Keep Z a c :=
  ⟨k.os.trans h.os, k.tape.trans h.tape, k.output.trans h.output, Nat.le_trans h.size k.size, fun i hi hn => (k.block i (Nat.lt_of_lt_of_le hi h.size) (fun hz' => (hz i hz').elim hn (fun hl => absurd hi (by omega)))).trans (h.block i hi hn)⟩
theorem Keep.mono {Z Z' : Nat → Prop} {a b : World} (h : Keep Z a b) (hz : ∀ x, Z x → Z' x) : Keep Z' a b := ⟨h.os, h.tape, h.output, h.size, fun k hk hn => h.block k hk (fun e => hn (hz k e))⟩
theorem Keep.since {Z : Nat → Prop} {w0 a b : World} (h : Keep Z a b) (h0 : Since w0 a) (hz : ∀ x, Z x → w0.heap.size ≤ x) : Since w0 b :=
  Below.trans h0 ⟨h.os, h.tape, h.output, h.size, fun k hk => h.block k (Nat.lt_of_lt_of_le hk h0.size) (fun e => absurd (hz k e) (by omega))⟩
theorem Keep.cel {Z : Nat → Prop} {W W' : World} (hk : Keep Z W W') {g : Nat} {cs : Array Value} {T : TypeId} (h : Cel W g cs T) (hz : ¬ Z g) : Cel W' g cs T := cel_stand h (hk.block g h.lt hz)
theorem Keep.own {Z : Nat → Prop} {w w' : World} (hk : Keep Z w w') {B : Nat} {e : TypeId} {K n : Nat} {v : Value} {xs : List Value} (h : w.ownsRow B e K v n xs) (hz : ∀ b, v.ownBlock = some b → ¬ Z b) : w'.ownsRow B e K v n xs :=
  own_stand h fun b hb => hk.block b (h.lt b hb).2 (hz b hb)
/-- A table from block B on, whose blocks are among Z. -/
structure Tab (W : World) (B g : Nat) (Z : Nat → Prop) (S : List TCall) : Prop where
  ex : ∃ mp np cv R, TabAt W B g mp np cv R S ∧ ∀ b, TabB g mp cv R b → Z b
  low : ∀ b, Z b → B ≤ b ∧ b < W.heap.size
theorem Tab.stand {W W' : World} {B g : Nat} {Z : Nat → Prop} {S : List TCall} (h : Tab W B g Z S) (hs : W.heap.size ≤ W'.heap.size) (hk : ∀ b, Z b → W'.heap[b]? = W.heap[b]?) : Tab W' B g Z S := by
  obtain ⟨⟨mp, np, cv, R, h1, h2⟩, h3⟩ := h
  exact ⟨⟨mp, np, cv, R, h1.stand (fun b hb => hk b (h2 b hb)), h2⟩, fun b hb => ⟨(h3 b hb).1, Nat.lt_of_lt_of_le (h3 b hb).2 hs⟩⟩
theorem Tab.next {W W' : World} {B g : Nat} {Z : Nat → Prop} {S : List TCall} (h : Tab W B g Z S) (hs : Since W W') : Tab W' B g Z S := h.stand hs.size fun b hb => hs.block b (h.low b hb).2
theorem Tab.far {W W' : World} {B g : Nat} {Z : Nat → Prop} {S : List TCall} {row : Option Nat} (h : Tab W B g Z S) (hg : W.grownBy W' row) (hz : ∀ b, row = some b → ¬ Z b) : Tab W' B g Z S :=
  h.stand hg.size fun b hb => hg.block b (h.low b hb).2 (fun e => hz b e.symm hb)
/-- What a call of the table leaves. -/
structure TOp (Z : Nat → Prop) (B g : Nat) (w w' : World) (S' : List TCall) : Prop where
  tab : Tab w' B g (Zx Z w w') S'
  keep : Keep Z w w'
theorem TOp.of {W W' : World} {B g mp mp' np' : Nat} {cv cv' : Value} {R R' : List CallP} {S' : List TCall} {Z : Nat → Prop} (hZ : ∀ b, TabB g mp cv R b → Z b) (hlow : ∀ b, Z b → B ≤ b ∧ b < W.heap.size) (hB : B ≤ W.heap.size) (h : TabAt W' B g mp' np' cv' R' S') (hk : Keep (TabB g mp cv R) W W') (hb : ∀ b, TabB g mp' cv' R' b → TabB g mp cv R b ∨ W.heap.size ≤ b) : TOp Z B g W W' S' :=
  ⟨⟨⟨mp', np', cv', R', h, fun b hx => (hb b hx).elim (fun h1 => .inl (hZ b h1)) (fun h1 => .inr ⟨h1, (h.inside b hx).2⟩)⟩, fun b hx => hx.elim (fun h1 => ⟨(hlow b h1).1, Nat.lt_of_lt_of_le (hlow b h1).2 hk.size⟩) (fun h1 => ⟨Nat.le_trans hB h1.1, h1.2⟩)⟩, hk.mono hZ⟩
theorem TOp.same {W W' : World} {B g : Nat} {S : List TCall} {Z : Nat → Prop} (h : Tab W B g Z S) (hs : Since W W') (hB : B ≤ W.heap.size) : TOp Z B g W W' S := by
  obtain ⟨⟨mp, np, cv, R, h1, h2⟩, h3⟩ := h
  exact TOp.of h2 h3 hB (h1.next hs) (Keep.of_since hs) (fun b hb => .inl hb)
theorem cel_cel_ne {W : World} {g g' : Nat} {cs cs' : Array Value} {T T' : TypeId} (h : Cel W g cs T) (h' : Cel W g' cs' T') (hT : T ≠ T') : g ≠ g' := by
  rintro rfl
  unfold Cel at h h'
  rw [h] at h'
  injection h' with h'
  injection h' with _ h'
  exact hT h'
theorem own_ne_some {u : Value} {row : Option Nat} (h : u.ownBlock = none ∨ u.ownBlock ≠ row) : ∀ b, u.ownBlock = some b → row ≠ some b := fun b hb e => by
  rcases h with h | h
  · rw [h] at hb; cases hb
  · exact h (hb.trans e.symm)
theorem cntS_set {S : List TCall} {i : Nat} {c : TCall} (h : i < S.length) (hc : c.2.1.length = (S[i]).2.1.length) : cntS (S.set i c) = cntS S := by
  unfold cntS
  congr 1
  apply List.ext_getElem
  · simp
  · intro k h1 h2
    rw [List.getElem_map, List.getElem_map, List.getElem_set]
    split
    · next e => subst e; exact hc
    · rfl
/-- The blocks of one call. -/
def CallB (p : CallP) (b : Nat) : Prop := b = p.b ∨ b = p.th ∨ p.av.ownBlock = some b ∨ p.wv.ownBlock = some b
/-- The blocks of another call are none of this one's. -/
theorem callB_apart {W : World} {B : Nat} {p q : CallP} {c d : TCall} (h : CallAt W B p c) (hq : CallAt W B q d) (hpq : CallP.apart p q) {b : Nat} (hb : CallB p b) : ¬ CallB q b := by
  intro hx
  obtain ⟨a1, a2, a3, a4⟩ := hpq
  rcases hb with rfl | rfl | hb | hb <;> rcases hx with hx | hx | hx | hx
  · exact a1 hx
  · exact kidx_cel_ne hq.map h.cel hx.symm
  · exact cel_own_ne h.cel hq.ans (by decide) hx.symm
  · exact cel_own_ne h.cel hq.who (by decide) hx.symm
  · exact kidx_cel_ne h.map hq.cel hx
  · exact a2 hx
  · exact kidx_own_ne h.map hq.ans hx.symm
  · exact kidx_own_ne h.map hq.who hx.symm
  · exact cel_own_ne hq.cel h.ans (by decide) (by rw [hb, hx])
  · exact kidx_own_ne hq.map h.ans (by rw [hb, hx])
  · exact own_ne_some a3 b hb hx
  · exact own_ne_some (own_kind_apart h.ans hq.who (by decide)) b hb hx
  · exact cel_own_ne hq.cel h.who (by decide) (by rw [hb, hx])
  · exact kidx_own_ne hq.map h.who (by rw [hb, hx])
  · exact own_ne_some (own_kind_apart h.who hq.ans (by decide)) b hb hx
  · exact own_ne_some a4 b hb hx
theorem CallAt.stand {W W' : World} {B : Nat} {p : CallP} {c : TCall} (hc : CallAt W B p c) (hx : ∀ b, CallB p b → W'.heap[b]? = W.heap[b]?) : CallAt W' B p c :=
  ⟨cel_stand hc.cel (hx _ (.inl rfl)), own_stand hc.ans (fun b hb => hx b (.inr (.inr (.inl hb)))), own_stand hc.who (fun b hb => hx b (.inr (.inr (.inr hb)))), kidx_stand hc.map (hx _ (.inr (.inl rfl))), hc.bb, hc.bt, hc.fit, hc.nd, hc.ln⟩
theorem CallAt.inside {W : World} {B : Nat} {p : CallP} {c : TCall} (hc : CallAt W B p c) : ∀ b, CallB p b → B ≤ b ∧ b < W.heap.size := by
  intro b hb
  rcases hb with rfl | rfl | hb | hb
  · exact ⟨hc.bb, hc.cel.lt⟩
  · exact ⟨hc.bt, hc.map.lt⟩
  · exact hc.ans.lt b hb
  · exact hc.who.lt b hb
/-- The table's own blocks (its box, its map, its row of pointers) are none of a call's. -/
theorem TabAt.head_apart {W : World} {B g mp np : Nat} {cv : Value} {R : List CallP} {S : List TCall} (h : TabAt W B g mp np cv R S) {i : Nat} (hi : i < R.length) (hi2 : i < S.length) : ∀ b, CallB R[i] b → b ≠ g ∧ b ≠ mp ∧ cv.ownBlock ≠ some b := by
  intro b hb
  have hc := h.call i hi hi2
  rcases hb with rfl | rfl | hb | hb
  · exact ⟨cel_cel_ne hc.cel h.cel (by decide), fun e => kidx_cel_ne h.map hc.cel e.symm, fun e => cel_own_ne hc.cel h.row (by decide) e.symm⟩
  · exact ⟨kidx_cel_ne hc.map h.cel, h.mapart _ (List.getElem_mem hi), fun e => kidx_own_ne hc.map h.row e.symm⟩
  · exact ⟨fun e => cel_own_ne h.cel hc.ans (by decide) (by rw [hb, e]), fun e => kidx_own_ne h.map hc.ans (by rw [hb, e]), own_ne_some (own_kind_apart hc.ans h.row (by decide)) b hb⟩
  · exact ⟨fun e => cel_own_ne h.cel hc.who (by decide) (by rw [hb, e]), fun e => kidx_own_ne h.map hc.who (by rw [hb, e]), own_ne_some (own_kind_apart hc.who h.row (by decide)) b hb⟩
/-- One call changed, and perhaps the count. -/
theorem TabAt.change {W W4 : World} {B g mp np : Nat} {cv : Value} {R : List CallP} {S : List TCall} (h : TabAt W B g mp np cv R S) {i : Nat} (hi : i < R.length) (hi2 : i < S.length) {q : CallP} {c : TCall}
    (hk : ∀ b, b < W.heap.size → ¬ CallB R[i] b → b ≠ g → W4.heap[b]? = W.heap[b]?) (hb : q.b = R[i].b) (hth : q.th = R[i].th) (hc1 : c.1 = (S[i]).1)
    (hav : q.av.ownBlock = R[i].av.ownBlock ∨ ∀ b, q.av.ownBlock = some b → W.heap.size ≤ b) (hwv : q.wv.ownBlock = R[i].wv.ownBlock ∨ ∀ b, q.wv.ownBlock = some b → W.heap.size ≤ b)
    (hcel : Cel W4 g #[.map (some mp), cv, .int .i64 (cntS (S.set i c) : Int)] 65) (hself : CallAt W4 B q c) :
    TabAt W4 B g mp np cv (R.set i q) (S.set i c) ∧ (∀ b, TabB g mp cv (R.set i q) b → TabB g mp cv R b ∨ W.heap.size ≤ b) := by
  have hI := h.inside
  have hH := fun j (hj : j < R.length) (hj2 : j < S.length) => h.head_apart hj hj2
  have hqB : ∀ b, CallB q b → CallB R[i] b ∨ W.heap.size ≤ b := by
    intro b hx
    rcases hx with hx | hx | hx | hx
    · exact .inl (.inl (hx.trans hb))
    · exact .inl (.inr (.inl (hx.trans hth)))
    · rcases hav with ha | ha
      · exact .inl (.inr (.inr (.inl (ha.symm.trans hx))))
      · exact .inr (ha b hx)
    · rcases hwv with ha | ha
      · exact .inl (.inr (.inr (.inr (ha.symm.trans hx))))
      · exact .inr (ha b hx)
  have ap1 : ∀ {u v : Value}, apartV u v → ∀ v' : Value, (v'.ownBlock = v.ownBlock ∨ ∀ b, v'.ownBlock = some b → W.heap.size ≤ b) → (∀ b, u.ownBlock = some b → b < W.heap.size) → apartV u v' := by
    intro u v hu v' hv' hl
    unfold apartV at hu ⊢
    rcases hv' with hv' | hv'
    · rw [hv']; exact hu
    · cases hb : u.ownBlock with
      | none => exact .inl rfl
      | some b => exact .inr fun e => absurd (hv' b e.symm) (by have := hl b hb; omega)
  refine ⟨h.set hi hb hcel (kidx_stand h.map (hk mp h.map.lt (fun hx => (hH i hi hi2 mp hx).2.1 rfl) (kidx_cel_ne h.map h.cel))) (own_stand h.row (fun b hb => hk b (h.row.lt b hb).2 (fun hx => (hH i hi hi2 b hx).2.2 hb) (fun e => cel_own_ne h.cel h.row (by decide) (by rw [hb, e])))) (fun _ => hc1) hself (fun j hj hj2 hne => ?_) (fun j hj hne => ?_) (by rw [hth]; exact h.mapart _ (List.getElem_mem hi)), fun b hb => ?_⟩
  · have hc := h.call j hj hj2
    exact hc.stand fun b hb => hk b (hc.inside b hb).2 (callB_apart hc (h.call i hi hi2) (h.apart_of hj hi hne) hb) (hH j hj hj2 b hb).1
  · obtain ⟨a1, a2, a3, a4⟩ := h.apart_of hj hi hne
    have hc := h.call j hj (by rw [← h.len]; exact hj)
    exact ⟨by rw [hb]; exact a1, by rw [hth]; exact a2, ap1 a3 _ hav (fun b hb => (hc.ans.lt b hb).2), ap1 a4 _ hwv (fun b hb => (hc.who.lt b hb).2)⟩
  · rcases hb with hx | hx | hx | ⟨p, hp, hx⟩
    · exact .inl (.inl hx)
    · exact .inl (.inr (.inl hx))
    · exact .inl (.inr (.inr (.inl hx)))
    · rcases List.mem_or_eq_of_mem_set hp with h1 | h1
      · exact .inl (.inr (.inr (.inr ⟨p, h1, hx⟩)))
      · rw [h1] at hx
        rcases hqB b hx with h2 | h2
        · exact .inl (.inr (.inr (.inr ⟨_, List.getElem_mem hi, h2⟩)))
        · exact .inr h2
/-- One call more. -/
theorem TabAt.more {W W4 : World} {B g mp np np' : Nat} {cv cv' : Value} {R : List CallP} {S : List TCall} (h : TabAt W B g mp np cv R S) {q : CallP} {c : TCall}
    (hk : ∀ b, b < W.heap.size → b ≠ g → b ≠ mp → cv.ownBlock ≠ some b → W4.heap[b]? = W.heap[b]?) (hq : ∀ b, CallB q b → W.heap.size ≤ b) (hcv : cv'.ownBlock = cv.ownBlock ∨ ∀ b, cv'.ownBlock = some b → W.heap.size ≤ b)
    (hcel : Cel W4 g #[.map (some mp), cv', .int .i64 (cntS S : Int)] 65) (hc0 : c.2.1 = []) (hmap : AIdx W4 mp np' ((S.map fun c => c.1) ++ [c.1])) (hrow : W4.ownsRow B 67 1 cv' (R.length + 1) (R.flatMap ptrV ++ [.pointer (some ⟨q.b, 0, none⟩)]))
    (hself : CallAt W4 B q c) (hnew : c.1 ∉ S.map fun c => c.1) (hnp : np' ≤ np + 1) (hl : S.length < 1000) :
    TabAt W4 B g mp np' cv' (R ++ [q]) (S ++ [c]) ∧ (∀ b, TabB g mp cv' (R ++ [q]) b → TabB g mp cv R b ∨ W.heap.size ≤ b) := by
  have hI := h.inside
  have hlen := h.len
  have hmapp : (S ++ [c]).map (fun c => c.1) = (S.map fun c => c.1) ++ [c.1] := by rw [List.map_append]; rfl
  have hcnt : cntS (S ++ [c]) = cntS S := by
    unfold cntS
    rw [List.map_append, List.sum_append]
    simp [hc0]
  have hmp : mp < W.heap.size := h.map.lt
  refine ⟨⟨by rw [hcnt]; exact hcel, by rw [hmapp]; exact hmap, ?_, by rw [List.length_append, List.length_append, hlen]; rfl, fun i h1 h2 => ?_, ?_, fun p hp => ?_, h.bg, h.bm, ?_, ?_⟩, fun b hb => ?_⟩
  · rw [List.length_append, List.flatMap_append]
    exact hrow
  · rw [List.length_append] at h1 h2
    by_cases hi : i < R.length
    · have hi2 : i < S.length := by rw [← hlen]; exact hi
      rw [List.getElem_append_left hi, List.getElem_append_left hi2]
      have hc := h.call i hi hi2
      refine hc.stand fun b hb => ?_
      obtain ⟨x1, x2, x3⟩ := h.head_apart hi hi2 b hb
      exact hk b (hc.inside b hb).2 x1 x2 x3
    · have e : i = R.length := by simp at h1; omega
      subst e
      have e2 : (S ++ [c])[R.length] = c := by
        have : ∀ (k : Nat) (hk : k < (S ++ [c]).length), k = S.length → (S ++ [c])[k] = c := by
          intro k hk e; subst e; simp
        exact this _ _ hlen
      rw [e2]
      simpa using hself
  · rw [List.pairwise_append]
    refine ⟨h.apart, List.pairwise_singleton _ _, fun p hp p' hp' => ?_⟩
    have e : p' = q := by simpa using hp'
    subst e
    obtain ⟨i, hi, rfl⟩ := List.getElem_of_mem hp
    have hc := h.call i hi (by rw [← hlen]; exact hi)
    have lt : ∀ b, CallB R[i] b → ¬ CallB p' b := fun b hb hx => by have := (hc.inside b hb).2; have := hq b hx; omega
    refine ⟨fun e => lt _ (.inl rfl) (.inl e), fun e => lt _ (.inr (.inl rfl)) (.inr (.inl e)), ?_, ?_⟩
    · unfold apartV
      cases hb : R[i].av.ownBlock with
      | none => exact .inl rfl
      | some b => exact .inr fun e => lt b (.inr (.inr (.inl hb))) (.inr (.inr (.inl e.symm)))
    · unfold apartV
      cases hb : R[i].wv.ownBlock with
      | none => exact .inl rfl
      | some b => exact .inr fun e => lt b (.inr (.inr (.inr hb))) (.inr (.inr (.inr e.symm)))
  · rcases List.mem_append.1 hp with hp | hp
    · exact h.mapart p hp
    · have e : p = q := by simpa using hp
      subst e
      intro e
      have := hq _ (.inr (.inl rfl))
      omega
  · rw [hmapp, List.nodup_append]
    refine ⟨h.nd, by simp, fun a ha b hb => ?_⟩
    have e : b = c.1 := by simpa using hb
    subst e
    exact fun e => hnew (e ▸ ha)
  · have := h.ln
    rw [List.length_append]
    simp only [List.length_cons, List.length_nil]
    omega
  · rcases hb with hb | hb | hb | ⟨p, hp, hb⟩
    · exact .inl (.inl hb)
    · exact .inl (.inr (.inl hb))
    · rcases hcv with hx | hx
      · exact .inl (.inr (.inr (.inl (hx.symm.trans hb))))
      · exact .inr (hx b hb)
    · rcases List.mem_append.1 hp with h1 | h1
      · exact .inl (.inr (.inr (.inr ⟨p, h1, hb⟩)))
      · have e : p = q := by simpa using h1
        subst e
        exact .inr (hq b hb)
end Go.Proofs.YtbgdljcgbhhfdaaGreatDoor
