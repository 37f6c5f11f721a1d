/- Package table: a call's answers grown; canonical forms of valid atoms are valid. Package table: Add. Plain matching with canonical forms; Same[Atom] of equal lists; Add in words of Tab. -/
import Derived.Test.YtbgdljcgbhhfdaaGreatDoorTabK
import Derived.Test.YtbgdljcgbhhfdaaGreatDoorMaB
import Derived.Test.YtbgdljcgbhhfdaaGreatDoorTabP
namespace Go.Proofs.YtbgdljcgbhhfdaaGreatDoor
open Go.RowKit Go.Maps Go.WideMaps

def addC (c : TCall) (a : Atm) : TCall := (c.1, c.2.1 ++ [a], c.2.2)
theorem sum_set1 : ∀ (l : List Nat) (i : Nat) (h : i < l.length) (n : Nat), n = l[i] + 1 → (l.set i n).sum = l.sum + 1
  | x :: r, 0, _, n, e => by
    rw [List.set_cons_zero, List.sum_cons, List.sum_cons, e]
    show x + 1 + r.sum = _
    omega
  | x :: r, k + 1, h, n, e => by
    rw [List.set_cons_succ, List.sum_cons, List.sum_cons, sum_set1 r k (by simpa using h) n e]
    omega
theorem cntS_add {S : List TCall} {i : Nat} (h : i < S.length) (a : Atm) : cntS (S.set i (addC S[i] a)) = cntS S + 1 := by
  unfold cntS
  rw [List.map_set]
  refine sum_set1 _ i (by rw [List.length_map]; exact h) _ ?_
  rw [List.getElem_map]
  show ((S[i]).2.1 ++ [a]).length = _
  rw [List.length_append]; rfl
theorem TabAt.added {W W8 Wm Wa W3 : World} {B g mp np : Nat} {cv : Value} {R : List CallP} {S : List TCall} (h : TabAt W B g mp np cv R S) {i : Nat} (hi : i < R.length) (hi2 : i < S.length) {v' : Value} (a : Atm)
    (hs : Since W W8) (g1 : W8.grownBy Wm (some R[i].th)) (hM : AIdx Wm R[i].th (R[i].nt + 1) ((S[i]).2.1 ++ [a])) (hs2 : Since Wm Wa) (hg : Wa.grownBy W3 R[i].av.ownBlock)
    (hown : W3.ownsRow B 33 11 v' ((S[i]).2.1.length + 1) ((S[i]).2.1.flatMap atmL ++ (atmC a).toList)) (hat : v'.ownBlock = R[i].av.ownBlock ∨ v'.ownBlock = some Wa.heap.size) (hl : (S[i]).2.1.length < 100000) (hx : posF (S[i]).2.1 a 0 = none) (hf : FitsN a) :
    ∃ R', TabAt ((W3.setCell ⟨R[i].b, 11, none⟩ v').setCell ⟨g, 2, none⟩ (.int .i64 ((cntS S : Int) + 1))) B g mp np cv R' (S.set i (addC S[i] a)) ∧ (∀ b, TabB g mp cv R' b → TabB g mp cv R b ∨ W.heap.size ≤ b) ∧ Keep (TabB g mp cv R) W ((W3.setCell ⟨R[i].b, 11, none⟩ v').setCell ⟨g, 2, none⟩ (.int .i64 ((cntS S : Int) + 1))) := by
  have hc := h.call i hi hi2
  have hmem : R[i] ∈ R := List.getElem_mem hi
  have hH := h.head_apart hi hi2
  have gb : W3.grownBy (W3.setCell ⟨R[i].b, 11, none⟩ v') (some R[i].b) := grown_setCell W3 R[i].b 11 v'
  have gg : (W3.setCell ⟨R[i].b, 11, none⟩ v').grownBy ((W3.setCell ⟨R[i].b, 11, none⟩ v').setCell ⟨g, 2, none⟩ (.int .i64 ((cntS S : Int) + 1))) (some g) := grown_setCell _ g 2 _
  have hk : Keep (fun b => CallB R[i] b ∨ b = g) W ((W3.setCell ⟨R[i].b, 11, none⟩ v').setCell ⟨g, 2, none⟩ (.int .i64 ((cntS S : Int) + 1))) := by
    refine Keep.trans (Keep.trans (Keep.trans (Keep.trans (Keep.trans (Keep.of_since hs) (Keep.of_grown (Z := fun b => CallB R[i] b ∨ b = g) g1 ?_) (fun _ hz => .inl hz)) (Keep.of_since (Z := fun b => CallB R[i] b ∨ b = g) hs2) (fun _ hz => .inl hz)) (Keep.of_grown (Z := fun b => CallB R[i] b ∨ b = g) hg ?_) (fun _ hz => .inl hz)) (Keep.of_grown (Z := fun b => CallB R[i] b ∨ b = g) gb ?_) (fun _ hz => .inl hz)) (Keep.of_grown (Z := fun b => CallB R[i] b ∨ b = g) gg ?_) (fun _ hz => .inl hz)
    · intro b hb; injection hb with hb; exact .inl (.inr (.inl hb.symm))
    · intro b hb; exact .inl (.inr (.inr (.inl hb)))
    · intro b hb; injection hb with hb; exact .inl (.inl hb.symm)
    · intro b hb; injection hb with hb; exact .inr hb.symm
  have hbth : some R[i].b ≠ some R[i].th := fun e => kidx_cel_ne hc.map hc.cel (by injection e with e; exact e.symm)
  have hbav : some R[i].b ≠ R[i].av.ownBlock := cel_own_ne hc.cel hc.ans (by decide)
  have hthav : some R[i].th ≠ R[i].av.ownBlock := kidx_own_ne hc.map hc.ans
  have hbg : R[i].b ≠ g := (hH _ (.inl rfl)).1
  have hthg : R[i].th ≠ g := (hH _ (.inr (.inl rfl))).1
  have hcel3 : Cel W3 R[i].b (callC S[i] R[i].av R[i].th R[i].wv) 70 := (((hc.cel.next hs).grown g1 hbth).next hs2).grown hg hbav
  have hcel4 : Cel (W3.setCell ⟨R[i].b, 11, none⟩ v') R[i].b (callC (addC S[i] a) v' R[i].th R[i].wv) 70 := hcel3.set rfl
  have hcel5 := hcel4.grown gg (fun e => hbg (by injection e))
  have hgm : g ≠ R[i].th := fun e => hthg e.symm
  have hgav : some g ≠ R[i].av.ownBlock := cel_own_ne h.cel hc.ans (by decide)
  have hgc3 : Cel W3 g #[.map (some mp), cv, .int .i64 (cntS S : Int)] 65 := (((h.cel.next hs).grown g1 (fun e => hgm (by injection e))).next hs2).grown hg hgav
  have hgc4 := hgc3.grown gb (fun e => hbg (by injection e with e; exact e.symm))
  have hgc5 : Cel ((W3.setCell ⟨R[i].b, 11, none⟩ v').setCell ⟨g, 2, none⟩ (.int .i64 ((cntS S : Int) + 1))) g #[.map (some mp), cv, .int .i64 (cntS (S.set i (addC S[i] a)) : Int)] 65 := by
    have e : ((cntS (S.set i (addC S[i] a)) : Nat) : Int) = (cntS S : Int) + 1 := by rw [cntS_add hi2]; rfl
    rw [e]
    exact hgc4.set rfl
  have hrow : ((W3.setCell ⟨R[i].b, 11, none⟩ v').setCell ⟨g, 2, none⟩ (.int .i64 ((cntS S : Int) + 1))).ownsRow B 33 11 v' (addC S[i] a).2.1.length ((addC S[i] a).2.1.flatMap atmL) := by
    have h1 := own_setCell (u := .int .i64 ((cntS S : Int) + 1)) (j := 2) (own_setCell (u := v') (j := 11) hown hcel3 (by decide)) hgc4 (by decide)
    show World.ownsRow _ B 33 11 v' ((S[i]).2.1 ++ [a]).length (((S[i]).2.1 ++ [a]).flatMap atmL)
    rw [List.length_append, List.flatMap_append]
    simpa [atmL] using h1
  have hmap5 : AIdx ((W3.setCell ⟨R[i].b, 11, none⟩ v').setCell ⟨g, 2, none⟩ (.int .i64 ((cntS S : Int) + 1))) R[i].th (R[i].nt + 1) ((S[i]).2.1 ++ [a]) :=
    (((hM.next hs2).far hg hthav).far gb (fun e => hbth e.symm)).far gg (fun e => hthg (by injection e))
  have hk2 : ((W3.setCell ⟨R[i].b, 11, none⟩ v').setCell ⟨g, 2, none⟩ (.int .i64 ((cntS S : Int) + 1))).ownsRow B 3 1 R[i].wv (S[i]).2.2.length ((S[i]).2.2.flatMap intV1) := by
    have w1 := (own_since hc.who hs).kept g1 (.inr fun e => kidx_own_ne hc.map hc.who e.symm)
    have w2 := (own_since w1 hs2).kept hg (own_kind_apart hc.who hc.ans (by decide))
    exact own_setCell (own_setCell w2 hcel3 (by decide)) hgc4 (by decide)
  have hself : CallAt ((W3.setCell ⟨R[i].b, 11, none⟩ v').setCell ⟨g, 2, none⟩ (.int .i64 ((cntS S : Int) + 1))) B { R[i] with av := v', nt := R[i].nt + 1 } (addC S[i] a) := by
    refine ⟨hcel5, hrow, hk2, hmap5, hc.bb, hc.bt, ⟨hc.fit.1, fun x hx2 => ?_⟩, ?_, ?_⟩
    · rcases List.mem_append.1 hx2 with h1 | h1
      · exact hc.fit.2 x h1
      · have e : x = a := by simpa using h1
        rw [e]; exact hf
    · show ((S[i]).2.1 ++ [a]).Nodup
      rw [List.nodup_append]
      refine ⟨hc.nd, by simp, fun x hx2 y hy => ?_⟩
      obtain rfl := List.mem_singleton.1 hy
      exact fun e => posF_none.1 hx (e ▸ hx2)
    · have := hc.ln
      show R[i].nt + 1 ≤ ((S[i]).2.1 ++ [a]).length ∧ ((S[i]).2.1 ++ [a]).length ≤ 100000 ∧ _
      rw [List.length_append, List.length_singleton]
      exact ⟨by omega, by omega, this.2.2⟩
  have hch := h.change hi hi2 (q := { R[i] with av := v', nt := R[i].nt + 1 }) (c := addC S[i] a) (fun b hb hn hng => hk.block b hb (fun hz => hz.elim hn hng)) rfl rfl rfl (hat.imp id (fun e b hb => by
    have : b = Wa.heap.size := by rw [show ({ R[i] with av := v', nt := R[i].nt + 1 } : CallP).av = v' from rfl, e] at hb; injection hb with hb; exact hb.symm
    rw [this]; exact Nat.le_trans hs.size (Nat.le_trans g1.size hs2.size))) (.inl rfl) hgc5 hself
  exact ⟨_, hch.1, hch.2, hk.mono fun b hb => hb.elim (fun e => .inr (.inr (.inr ⟨_, hmem, e⟩))) (fun e => .inl e)⟩
end Go.Proofs.YtbgdljcgbhhfdaaGreatDoor

namespace Go.Proofs.YtbgdljcgbhhfdaaGreatDoor
open Go.RowKit Go.Maps Go.WideMaps

/-- May an atom be an answer of a call? -/
def addOK (c a : Atm) : Bool := (checkA a == 0) && (extH [] c a).isSome
theorem match_flag (c_s c_p : List UInt8) (c_n : Int) (c_v0 c_v1 c_v2 c_v3 : Bool) (c_l0 c_l1 c_l2 c_l3 : List UInt8) (a_s a_p : List UInt8) (a_n : Int) (a_v0 a_v1 a_v2 a_v3 : Bool) (a_l0 a_l1 a_l2 a_l3 : List UInt8) (kc : checkA ((c_s, c_p, c_n, (c_v0, c_l0), (c_v1, c_l1), (c_v2, c_l2), (c_v3, c_l3)) : Atm) = 0) (hf : FitsA ((a_s, a_p, a_n, (a_v0, a_l0), (a_v1, a_l1), (a_v2, a_l2), (a_v3, a_l3)) : Atm)) {r : Bool} (hr : (extH [] ((c_s, c_p, c_n, (c_v0, c_l0), (c_v1, c_l1), (c_v2, c_l2), (c_v3, c_l3)) : Atm) ((a_s, a_p, a_n, (a_v0, a_l0), (a_v1, a_l1), (a_v2, a_l2), (a_v3, a_l3)) : Atm)).isSome = r) (w : World) (hE : Env w) :
    Calls Tryz.prog 36 #[.agg #[.string ⟨c_s.toArray⟩, .string ⟨c_p.toArray⟩, .int .i64 c_n, .bool c_v0, .string ⟨c_l0.toArray⟩, .bool c_v1, .string ⟨c_l1.toArray⟩, .bool c_v2, .string ⟨c_l2.toArray⟩, .bool c_v3, .string ⟨c_l3.toArray⟩], .agg #[.string ⟨a_s.toArray⟩, .string ⟨a_p.toArray⟩, .int .i64 a_n, .bool a_v0, .string ⟨a_l0.toArray⟩, .bool a_v1, .string ⟨a_l1.toArray⟩, .bool a_v2, .string ⟨a_l2.toArray⟩, .bool a_v3, .string ⟨a_l3.toArray⟩]] w fun e w' => ∃ v, e = .returned (.tuple #[v, .bool r]) ∧ Since w w' := by
  refine (mmatch_all c_s c_p c_n c_v0 c_v1 c_v2 c_v3 c_l0 c_l1 c_l2 c_l3 a_s a_p a_n a_v0 a_v1 a_v2 a_v3 a_l0 a_l1 a_l2 a_l3 kc w hE hf).mono ?_
  rintro e w' ⟨v, b, rfl, hb, hm⟩
  refine ⟨v, ?_, hb⟩
  have e : b = r := by
    rw [← hr]
    cases h : extH [] ((c_s, c_p, c_n, (c_v0, c_l0), (c_v1, c_l1), (c_v2, c_l2), (c_v3, c_l3)) : Atm) ((a_s, a_p, a_n, (a_v0, a_l0), (a_v1, a_l1), (a_v2, a_l2), (a_v3, a_l3)) : Atm) with
    | none => rw [h] at hm; exact hm.1
    | some m => rw [h] at hm; exact hm.1
  rw [e]
set_option maxRecDepth 100000 in
theorem st_atms {o : Oper} {x y : Operand} {ev : Operand → Value} {g k : Nat} {a : Option Addr} {n c : Nat} {cs : Array Value} {T : TypeId} (ho : o.op = Op.store 48 x y) (hx : ev x = .pointer (some ⟨g, k, none⟩)) (hy : ev y = .slice a n c) (W : World) (h : Cel W g cs T) (hk : (cs[k]?).isSome = true) :
    (execOp ev o).run Tryz.prog W = .ok .skip (W.setCell ⟨g, k, none⟩ (.slice a n c)) := by
  obtain ⟨u, hu⟩ := Option.isSome_iff_exists.1 hk
  have h1 : W.cell? ⟨g, k, none⟩ = some u := (h.cell k).trans hu
  have h2 := h.free k
  simp only [execOp, ho]
  go_simp
theorem at_half {W : World} {g : Nat} {c : TCall} {av wv : Value} {th : Nat} {T : TypeId} (h : Cel W g (callC c av th wv) T) : At W g 0 (atmC c.1) := fun j u hu => by
  rw [Nat.zero_add, h.cell j]
  exact callC_atm hu
/-- The facts of call i that a walk reads. -/
structure CallF (W : World) (qb th : Nat) (aa : Option Addr) (an ac : Nat) (c : Atm) : Prop where
  atom : At W qb 0 (atmC c)
  cells : At W qb 11 #[.slice aa an ac, .map (some th)]
theorem CallF.next {W W' : World} {qb th : Nat} {aa : Option Addr} {an ac : Nat} {c : Atm} (h : CallF W qb th aa an ac c) (hs : Since W W') : CallF W' qb th aa an ac c := ⟨h.atom.next hs, h.cells.next hs⟩
set_option maxHeartbeats 1000000 in
theorem tadd_no {B g mp np : Nat} {cv : Value} {R : List CallP} {S : List TCall} (i : Int) (a_s a_p : List UInt8) (a_n : Int) (a_v0 a_v1 a_v2 a_v3 : Bool) (a_l0 a_l1 a_l2 a_l3 : List UInt8) (w : World) (h : TabAt w B g mp np cv R S) (hi : i < 0 ∨ (S.length : Int) ≤ i) :
    Calls Tryz.prog 11 #[.pointer (some ⟨g, 0, none⟩), .int .i64 i, .agg #[.string ⟨a_s.toArray⟩, .string ⟨a_p.toArray⟩, .int .i64 a_n, .bool a_v0, .string ⟨a_l0.toArray⟩, .bool a_v1, .string ⟨a_l1.toArray⟩, .bool a_v2, .string ⟨a_l2.toArray⟩, .bool a_v3, .string ⟨a_l3.toArray⟩]] w fun e w' => e = .returned (.tuple #[.bool false, .int .i64 13]) ∧ Since w w' := by
  have hS : Since w (w.alloc (.cells #[.string ⟨a_s.toArray⟩, .string ⟨a_p.toArray⟩, .int .i64 a_n, .bool a_v0, .string ⟨a_l0.toArray⟩, .bool a_v1, .string ⟨a_l1.toArray⟩, .bool a_v2, .string ⟨a_l2.toArray⟩, .bool a_v3, .string ⟨a_l3.toArray⟩] 33)) := (Since.refl w).alloc _
  have HAT := Lib.hid (tat_no i _ (h.next hS) hi)
  clear h hi
  go_enter Tryz.func11, Tryz.ntmps11
  go_wp2_with fail
  refine HAT.out.mono ?_
  rintro e w2 ⟨rfl, hb2⟩
  go_wp2_with fail
  go_ret2
  exact ⟨rfl, hS.trans hb2⟩
set_option maxHeartbeats 4000000 in
set_option maxRecDepth 100000 in
theorem tadd_bad1 {B g mp np : Nat} {cv : Value} {R : List CallP} {S : List TCall} (i : Nat) (a_s a_p : List UInt8) (a_n : Int) (a_v0 a_v1 a_v2 a_v3 : Bool) (a_l0 a_l1 a_l2 a_l3 : List UInt8) (w : World) (h : TabAt w B g mp np cv R S) (hi : i < S.length) (hf : FitsN ((a_s, a_p, a_n, (a_v0, a_l0), (a_v1, a_l1), (a_v2, a_l2), (a_v3, a_l3)) : Atm)) (hE : Env w) (hkc : checkA (S[i]).1 = 0) (hx : (extH [] (S[i]).1 ((a_s, a_p, a_n, (a_v0, a_l0), (a_v1, a_l1), (a_v2, a_l2), (a_v3, a_l3)) : Atm)).isSome = false) :
    Calls Tryz.prog 11 #[.pointer (some ⟨g, 0, none⟩), .int .i64 (i : Int), .agg #[.string ⟨a_s.toArray⟩, .string ⟨a_p.toArray⟩, .int .i64 a_n, .bool a_v0, .string ⟨a_l0.toArray⟩, .bool a_v1, .string ⟨a_l1.toArray⟩, .bool a_v2, .string ⟨a_l2.toArray⟩, .bool a_v3, .string ⟨a_l3.toArray⟩]] w fun e w' => e = .returned (.tuple #[.bool false, .int .i64 2]) ∧ Since w w' := by
  have hS : Since w (w.alloc (.cells #[.string ⟨a_s.toArray⟩, .string ⟨a_p.toArray⟩, .int .i64 a_n, .bool a_v0, .string ⟨a_l0.toArray⟩, .bool a_v1, .string ⟨a_l1.toArray⟩, .bool a_v2, .string ⟨a_l2.toArray⟩, .bool a_v3, .string ⟨a_l3.toArray⟩] 33)) := (Since.refl w).alloc _
  have aA : At (w.alloc (.cells #[.string ⟨a_s.toArray⟩, .string ⟨a_p.toArray⟩, .int .i64 a_n, .bool a_v0, .string ⟨a_l0.toArray⟩, .bool a_v1, .string ⟨a_l1.toArray⟩, .bool a_v2, .string ⟨a_l2.toArray⟩, .bool a_v3, .string ⟨a_l3.toArray⟩] 33)) w.heap.size 0 #[.string ⟨a_s.toArray⟩, .string ⟨a_p.toArray⟩, .int .i64 a_n, .bool a_v0, .string ⟨a_l0.toArray⟩, .bool a_v1, .string ⟨a_l1.toArray⟩, .bool a_v2, .string ⟨a_l2.toArray⟩, .bool a_v3, .string ⟨a_l3.toArray⟩] := Cel.at (heap_alloc_new w _)
  have aB : Box (w.alloc (.cells #[.string ⟨a_s.toArray⟩, .string ⟨a_p.toArray⟩, .int .i64 a_n, .bool a_v0, .string ⟨a_l0.toArray⟩, .bool a_v1, .string ⟨a_l1.toArray⟩, .bool a_v2, .string ⟨a_l2.toArray⟩, .bool a_v3, .string ⟨a_l3.toArray⟩] 33)) w.heap.size ((a_s, a_p, a_n, (a_v0, a_l0), (a_v1, a_l1), (a_v2, a_l2), (a_v3, a_l3)) : Atm) := box_new w ((a_s, a_p, a_n, (a_v0, a_l0), (a_v1, a_l1), (a_v2, a_l2), (a_v3, a_l3)) : Atm) _
  have hi2 : i < R.length := by rw [h.len]; exact hi
  have HAT := Lib.hid (tat_yes i _ (h.next hS) hi2)
  have hC := h.call i hi2 hi
  have HXS := Lib.hid hx
  obtain ⟨c, hc⟩ : ∃ c, Hid (c = S[i]) := ⟨S[i], rfl⟩
  obtain ⟨q, hq⟩ : ∃ q, Hid (q = R[i]) := ⟨R[i], rfl⟩
  rw [← hq.out] at HAT
  rw [← hc.out] at HXS hkc
  have hC2 : CallAt w B q c := by rw [hq.out, hc.out]; exact hC
  clear hC
  have hC := hC2
  clear hC2
  clear h hi hi2 hc hq hx
  obtain ⟨qb, qt, qn, qa, qw⟩ := q
  obtain ⟨⟨c_s, c_p, c_n, ⟨c_v0, c_l0⟩, ⟨c_v1, c_l1⟩, ⟨c_v2, c_l2⟩, ⟨c_v3, c_l3⟩⟩, cs, cw⟩ := c
  simp only at HAT hkc HXS
  have hans := hC.ans
  simp only at hans
  obtain ⟨aa, ac, rfl⟩ : ∃ a k, qa = .slice a cs.length k := own_slice hans
  have hcl : Cel w qb (callC (((c_s, c_p, c_n, (c_v0, c_l0), (c_v1, c_l1), (c_v2, c_l2), (c_v3, c_l3)) : Atm), cs, cw) (.slice aa cs.length ac) qt qw) 70 := hC.cel
  have cA : At w qb 0 #[.string ⟨c_s.toArray⟩, .string ⟨c_p.toArray⟩, .int .i64 c_n, .bool c_v0, .string ⟨c_l0.toArray⟩, .bool c_v1, .string ⟨c_l1.toArray⟩, .bool c_v2, .string ⟨c_l2.toArray⟩, .bool c_v3, .string ⟨c_l3.toArray⟩] := at_half hcl
  have HE := Lib.hid hE
  have HMA := Lib.hid (fun W hE => match_flag c_s c_p c_n c_v0 c_v1 c_v2 c_v3 c_l0 c_l1 c_l2 c_l3 a_s a_p a_n a_v0 a_v1 a_v2 a_v3 a_l0 a_l1 a_l2 a_l3 hkc hf.1 HXS.out W hE)
  clear hC hans hcl hE hkc
  go_enter Tryz.func11, Tryz.ntmps11
  go_wp2_with fail
  refine HAT.out.mono ?_
  rintro e w2 ⟨rfl, hb⟩
  replace hS := hS.trans hb
  replace aA := aA.next hb
  replace aB := aB.next hb
  replace cA := cA.next hS
  clear HAT hb
  go_wp2_with fail
  replace hS := hS.trans ((Since.refl w2).drew)
  replace cA := cA.next ((Since.refl w2).drew)
  replace aA := aA.next ((Since.refl w2).drew)
  replace aB := aB.next ((Since.refl w2).drew)
  refine hx_begin (S := fun W => (Since w W) ∧ (At W qb 0 #[.string ⟨c_s.toArray⟩, .string ⟨c_p.toArray⟩, .int .i64 c_n, .bool c_v0, .string ⟨c_l0.toArray⟩, .bool c_v1, .string ⟨c_l1.toArray⟩, .bool c_v2, .string ⟨c_l2.toArray⟩, .bool c_v3, .string ⟨c_l3.toArray⟩]) ∧ (At W w.heap.size 0 #[.string ⟨a_s.toArray⟩, .string ⟨a_p.toArray⟩, .int .i64 a_n, .bool a_v0, .string ⟨a_l0.toArray⟩, .bool a_v1, .string ⟨a_l1.toArray⟩, .bool a_v2, .string ⟨a_l2.toArray⟩, .bool a_v3, .string ⟨a_l3.toArray⟩]) ∧ (Box W w.heap.size ((a_s, a_p, a_n, (a_v0, a_l0), (a_v1, a_l1), (a_v2, a_l2), (a_v3, a_l3)) : Atm))) (by kernel_rfl) ⟨hS, cA, aA, aB⟩ (by kernel_rfl) (fun _ _ _ _ _ h => h) (fun hns hQ => ?_)
  refine hx_take (i := 0) (oi := _) (v := .pointer (some ⟨qb, 0, none⟩)) rfl rfl hns (by kernel_rfl) (by kernel_rfl) hQ (by kernel_rfl) (fun _ _ => by kernel_rfl) ⟨hS, cA, aA, aB⟩ ?_
  refine hx_take (i := 1) (oi := _) (v := .pointer (some ⟨qb, 0, none⟩)) rfl rfl hns (by kernel_rfl) (by kernel_rfl) hQ (by kernel_rfl) (fun _ _ => by kernel_rfl) ⟨hS, cA, aA, aB⟩ ?_
  refine hx_take (i := 2) (oi := _) (v := .pointer (some ⟨qb, 0, none⟩)) rfl rfl hns (by kernel_rfl) (by kernel_rfl) hQ (by kernel_rfl) (fun _ _ => by kernel_rfl) ⟨hS, cA, aA, aB⟩ ?_
  refine hx_take (i := 3) (oi := _) (v := .agg #[.string ⟨c_s.toArray⟩, .string ⟨c_p.toArray⟩, .int .i64 c_n, .bool c_v0, .string ⟨c_l0.toArray⟩, .bool c_v1, .string ⟨c_l1.toArray⟩, .bool c_v2, .string ⟨c_l2.toArray⟩, .bool c_v3, .string ⟨c_l3.toArray⟩]) rfl rfl hns (by kernel_rfl) (by kernel_rfl) hQ (by kernel_rfl) (fun W hW => ld_at rfl (by kernel_rfl) (by kernel_rfl) (by kernel_rfl) W (hW.2.1)) ⟨hS, cA, aA, aB⟩ ?_
  refine hx_take (i := 4) (oi := _) (v := .agg #[.string ⟨a_s.toArray⟩, .string ⟨a_p.toArray⟩, .int .i64 a_n, .bool a_v0, .string ⟨a_l0.toArray⟩, .bool a_v1, .string ⟨a_l1.toArray⟩, .bool a_v2, .string ⟨a_l2.toArray⟩, .bool a_v3, .string ⟨a_l3.toArray⟩]) rfl rfl hns (by kernel_rfl) (by kernel_rfl) hQ (by kernel_rfl) (fun W hW => ld_at rfl (by kernel_rfl) (by kernel_rfl) (by kernel_rfl) W (hW.2.2.1)) ⟨hS, cA, aA, aB⟩ ?_
  refine hx_call (i := 5) (oi := _) 36 #[.agg #[.string ⟨c_s.toArray⟩, .string ⟨c_p.toArray⟩, .int .i64 c_n, .bool c_v0, .string ⟨c_l0.toArray⟩, .bool c_v1, .string ⟨c_l1.toArray⟩, .bool c_v2, .string ⟨c_l2.toArray⟩, .bool c_v3, .string ⟨c_l3.toArray⟩], .agg #[.string ⟨a_s.toArray⟩, .string ⟨a_p.toArray⟩, .int .i64 a_n, .bool a_v0, .string ⟨a_l0.toArray⟩, .bool a_v1, .string ⟨a_l1.toArray⟩, .bool a_v2, .string ⟨a_l2.toArray⟩, .bool a_v3, .string ⟨a_l3.toArray⟩]] rfl rfl (by kernel_rfl) (by kernel_rfl) (by kernel_rfl) (HMA.out _ (HE.out.next hS)) ?_
  rintro e wx61 ⟨mv, rfl, hb⟩
  replace hS := hS.trans hb
  replace cA := cA.next hb
  replace aA := aA.next hb
  replace aB := aB.next hb
  clear hb
  refine ⟨_, rfl, ⟨hS, cA, aA, aB⟩, ?_⟩
  refine hx_take (i := 6) (oi := _) (v := .tuple #[mv, .bool false]) rfl rfl hns (by kernel_rfl) (by kernel_rfl) hQ (by kernel_rfl) (fun _ _ => by kernel_rfl) ⟨hS, cA, aA, aB⟩ ?_
  refine hx_take (i := 7) (oi := _) (v := mv) rfl rfl hns (by kernel_rfl) (by kernel_rfl) hQ (by kernel_rfl) (fun _ _ => by kernel_rfl) ⟨hS, cA, aA, aB⟩ ?_
  refine hx_take (i := 8) (oi := _) (v := .bool false) rfl rfl hns (by kernel_rfl) (by kernel_rfl) hQ (by kernel_rfl) (fun _ _ => by kernel_rfl) ⟨hS, cA, aA, aB⟩ ?_
  refine hx_take (i := 9) (oi := _) (v := mv) rfl rfl hns (by kernel_rfl) (by kernel_rfl) hQ (by kernel_rfl) (fun _ _ => by kernel_rfl) ⟨hS, cA, aA, aB⟩ ?_
  refine hx_take (i := 10) (oi := _) (v := .bool false) rfl rfl hns (by kernel_rfl) (by kernel_rfl) hQ (by kernel_rfl) (fun _ _ => by kernel_rfl) ⟨hS, cA, aA, aB⟩ ?_
  refine wpAnyH_done (by kernel_rfl) ?_ _
  clear hns hQ
  simp only [List.set_cons_zero, List.set_cons_succ]
  go_wp2_with fail
  go_ret2
  exact ⟨rfl, hS⟩
set_option maxHeartbeats 4000000 in
set_option maxRecDepth 100000 in
theorem tadd_bad2 {B g mp np : Nat} {cv : Value} {R : List CallP} {S : List TCall} (i : Nat) (a_s a_p : List UInt8) (a_n : Int) (a_v0 a_v1 a_v2 a_v3 : Bool) (a_l0 a_l1 a_l2 a_l3 : List UInt8) (w : World) (h : TabAt w B g mp np cv R S) (hi : i < S.length) (hf : FitsN ((a_s, a_p, a_n, (a_v0, a_l0), (a_v1, a_l1), (a_v2, a_l2), (a_v3, a_l3)) : Atm)) (hE : Env w) (hkc : checkA (S[i]).1 = 0) (hx : (extH [] (S[i]).1 ((a_s, a_p, a_n, (a_v0, a_l0), (a_v1, a_l1), (a_v2, a_l2), (a_v3, a_l3)) : Atm)).isSome = true) (hk : ¬ checkA ((a_s, a_p, a_n, (a_v0, a_l0), (a_v1, a_l1), (a_v2, a_l2), (a_v3, a_l3)) : Atm) = 0) :
    Calls Tryz.prog 11 #[.pointer (some ⟨g, 0, none⟩), .int .i64 (i : Int), .agg #[.string ⟨a_s.toArray⟩, .string ⟨a_p.toArray⟩, .int .i64 a_n, .bool a_v0, .string ⟨a_l0.toArray⟩, .bool a_v1, .string ⟨a_l1.toArray⟩, .bool a_v2, .string ⟨a_l2.toArray⟩, .bool a_v3, .string ⟨a_l3.toArray⟩]] w fun e w' => e = .returned (.tuple #[.bool false, .int .i64 2]) ∧ Since w w' := by
  have hS : Since w (w.alloc (.cells #[.string ⟨a_s.toArray⟩, .string ⟨a_p.toArray⟩, .int .i64 a_n, .bool a_v0, .string ⟨a_l0.toArray⟩, .bool a_v1, .string ⟨a_l1.toArray⟩, .bool a_v2, .string ⟨a_l2.toArray⟩, .bool a_v3, .string ⟨a_l3.toArray⟩] 33)) := (Since.refl w).alloc _
  have aA : At (w.alloc (.cells #[.string ⟨a_s.toArray⟩, .string ⟨a_p.toArray⟩, .int .i64 a_n, .bool a_v0, .string ⟨a_l0.toArray⟩, .bool a_v1, .string ⟨a_l1.toArray⟩, .bool a_v2, .string ⟨a_l2.toArray⟩, .bool a_v3, .string ⟨a_l3.toArray⟩] 33)) w.heap.size 0 #[.string ⟨a_s.toArray⟩, .string ⟨a_p.toArray⟩, .int .i64 a_n, .bool a_v0, .string ⟨a_l0.toArray⟩, .bool a_v1, .string ⟨a_l1.toArray⟩, .bool a_v2, .string ⟨a_l2.toArray⟩, .bool a_v3, .string ⟨a_l3.toArray⟩] := Cel.at (heap_alloc_new w _)
  have aB : Box (w.alloc (.cells #[.string ⟨a_s.toArray⟩, .string ⟨a_p.toArray⟩, .int .i64 a_n, .bool a_v0, .string ⟨a_l0.toArray⟩, .bool a_v1, .string ⟨a_l1.toArray⟩, .bool a_v2, .string ⟨a_l2.toArray⟩, .bool a_v3, .string ⟨a_l3.toArray⟩] 33)) w.heap.size ((a_s, a_p, a_n, (a_v0, a_l0), (a_v1, a_l1), (a_v2, a_l2), (a_v3, a_l3)) : Atm) := box_new w ((a_s, a_p, a_n, (a_v0, a_l0), (a_v1, a_l1), (a_v2, a_l2), (a_v3, a_l3)) : Atm) _
  have hi2 : i < R.length := by rw [h.len]; exact hi
  have HAT := Lib.hid (tat_yes i _ (h.next hS) hi2)
  have hC := h.call i hi2 hi
  have HXS := Lib.hid hx
  obtain ⟨c, hc⟩ : ∃ c, Hid (c = S[i]) := ⟨S[i], rfl⟩
  obtain ⟨q, hq⟩ : ∃ q, Hid (q = R[i]) := ⟨R[i], rfl⟩
  rw [← hq.out] at HAT
  rw [← hc.out] at HXS hkc
  have hC2 : CallAt w B q c := by rw [hq.out, hc.out]; exact hC
  clear hC
  have hC := hC2
  clear hC2
  clear h hi hi2 hc hq hx
  obtain ⟨qb, qt, qn, qa, qw⟩ := q
  obtain ⟨⟨c_s, c_p, c_n, ⟨c_v0, c_l0⟩, ⟨c_v1, c_l1⟩, ⟨c_v2, c_l2⟩, ⟨c_v3, c_l3⟩⟩, cs, cw⟩ := c
  simp only at HAT hkc HXS
  have hans := hC.ans
  simp only at hans
  obtain ⟨aa, ac, rfl⟩ : ∃ a k, qa = .slice a cs.length k := own_slice hans
  have hcl : Cel w qb (callC (((c_s, c_p, c_n, (c_v0, c_l0), (c_v1, c_l1), (c_v2, c_l2), (c_v3, c_l3)) : Atm), cs, cw) (.slice aa cs.length ac) qt qw) 70 := hC.cel
  have cA : At w qb 0 #[.string ⟨c_s.toArray⟩, .string ⟨c_p.toArray⟩, .int .i64 c_n, .bool c_v0, .string ⟨c_l0.toArray⟩, .bool c_v1, .string ⟨c_l1.toArray⟩, .bool c_v2, .string ⟨c_l2.toArray⟩, .bool c_v3, .string ⟨c_l3.toArray⟩] := at_half hcl
  have HE := Lib.hid hE
  have HMA := Lib.hid (fun W hE => match_flag c_s c_p c_n c_v0 c_v1 c_v2 c_v3 c_l0 c_l1 c_l2 c_l3 a_s a_p a_n a_v0 a_v1 a_v2 a_v3 a_l0 a_l1 a_l2 a_l3 hkc hf.1 HXS.out W hE)
  have HCK := Lib.hid (fun W (hE : Env W) => check_any a_s a_p a_n a_v0 a_v1 a_v2 a_v3 a_l0 a_l1 a_l2 a_l3 W hf.1 hE)
  obtain ⟨k, hk2⟩ : ∃ k, Hid (k = checkA ((a_s, a_p, a_n, (a_v0, a_l0), (a_v1, a_l1), (a_v2, a_l2), (a_v3, a_l3)) : Atm)) := ⟨_, rfl⟩
  rw [← hk2.out] at HCK hk
  have hk3 : (k != (0 : Int)) = true := by simpa using hk
  clear hC hans hcl hE hkc hk2
  go_enter Tryz.func11, Tryz.ntmps11
  go_wp2_with fail
  refine HAT.out.mono ?_
  rintro e w2 ⟨rfl, hb⟩
  replace hS := hS.trans hb
  replace aA := aA.next hb
  replace aB := aB.next hb
  replace cA := cA.next hS
  clear HAT hb
  go_wp2_with fail
  replace hS := hS.trans ((Since.refl w2).drew)
  replace cA := cA.next ((Since.refl w2).drew)
  replace aA := aA.next ((Since.refl w2).drew)
  replace aB := aB.next ((Since.refl w2).drew)
  refine hx_begin (S := fun W => (Since w W) ∧ (At W qb 0 #[.string ⟨c_s.toArray⟩, .string ⟨c_p.toArray⟩, .int .i64 c_n, .bool c_v0, .string ⟨c_l0.toArray⟩, .bool c_v1, .string ⟨c_l1.toArray⟩, .bool c_v2, .string ⟨c_l2.toArray⟩, .bool c_v3, .string ⟨c_l3.toArray⟩]) ∧ (At W w.heap.size 0 #[.string ⟨a_s.toArray⟩, .string ⟨a_p.toArray⟩, .int .i64 a_n, .bool a_v0, .string ⟨a_l0.toArray⟩, .bool a_v1, .string ⟨a_l1.toArray⟩, .bool a_v2, .string ⟨a_l2.toArray⟩, .bool a_v3, .string ⟨a_l3.toArray⟩]) ∧ (Box W w.heap.size ((a_s, a_p, a_n, (a_v0, a_l0), (a_v1, a_l1), (a_v2, a_l2), (a_v3, a_l3)) : Atm))) (by kernel_rfl) ⟨hS, cA, aA, aB⟩ (by kernel_rfl) (fun _ _ _ _ _ h => h) (fun hns hQ => ?_)
  refine hx_take (i := 0) (oi := _) (v := .pointer (some ⟨qb, 0, none⟩)) rfl rfl hns (by kernel_rfl) (by kernel_rfl) hQ (by kernel_rfl) (fun _ _ => by kernel_rfl) ⟨hS, cA, aA, aB⟩ ?_
  refine hx_take (i := 1) (oi := _) (v := .pointer (some ⟨qb, 0, none⟩)) rfl rfl hns (by kernel_rfl) (by kernel_rfl) hQ (by kernel_rfl) (fun _ _ => by kernel_rfl) ⟨hS, cA, aA, aB⟩ ?_
  refine hx_take (i := 2) (oi := _) (v := .pointer (some ⟨qb, 0, none⟩)) rfl rfl hns (by kernel_rfl) (by kernel_rfl) hQ (by kernel_rfl) (fun _ _ => by kernel_rfl) ⟨hS, cA, aA, aB⟩ ?_
  refine hx_take (i := 3) (oi := _) (v := .agg #[.string ⟨c_s.toArray⟩, .string ⟨c_p.toArray⟩, .int .i64 c_n, .bool c_v0, .string ⟨c_l0.toArray⟩, .bool c_v1, .string ⟨c_l1.toArray⟩, .bool c_v2, .string ⟨c_l2.toArray⟩, .bool c_v3, .string ⟨c_l3.toArray⟩]) rfl rfl hns (by kernel_rfl) (by kernel_rfl) hQ (by kernel_rfl) (fun W hW => ld_at rfl (by kernel_rfl) (by kernel_rfl) (by kernel_rfl) W (hW.2.1)) ⟨hS, cA, aA, aB⟩ ?_
  refine hx_take (i := 4) (oi := _) (v := .agg #[.string ⟨a_s.toArray⟩, .string ⟨a_p.toArray⟩, .int .i64 a_n, .bool a_v0, .string ⟨a_l0.toArray⟩, .bool a_v1, .string ⟨a_l1.toArray⟩, .bool a_v2, .string ⟨a_l2.toArray⟩, .bool a_v3, .string ⟨a_l3.toArray⟩]) rfl rfl hns (by kernel_rfl) (by kernel_rfl) hQ (by kernel_rfl) (fun W hW => ld_at rfl (by kernel_rfl) (by kernel_rfl) (by kernel_rfl) W (hW.2.2.1)) ⟨hS, cA, aA, aB⟩ ?_
  refine hx_call (i := 5) (oi := _) 36 #[.agg #[.string ⟨c_s.toArray⟩, .string ⟨c_p.toArray⟩, .int .i64 c_n, .bool c_v0, .string ⟨c_l0.toArray⟩, .bool c_v1, .string ⟨c_l1.toArray⟩, .bool c_v2, .string ⟨c_l2.toArray⟩, .bool c_v3, .string ⟨c_l3.toArray⟩], .agg #[.string ⟨a_s.toArray⟩, .string ⟨a_p.toArray⟩, .int .i64 a_n, .bool a_v0, .string ⟨a_l0.toArray⟩, .bool a_v1, .string ⟨a_l1.toArray⟩, .bool a_v2, .string ⟨a_l2.toArray⟩, .bool a_v3, .string ⟨a_l3.toArray⟩]] rfl rfl (by kernel_rfl) (by kernel_rfl) (by kernel_rfl) (HMA.out _ (HE.out.next hS)) ?_
  rintro e wx61 ⟨mv, rfl, hb⟩
  replace hS := hS.trans hb
  replace cA := cA.next hb
  replace aA := aA.next hb
  replace aB := aB.next hb
  clear hb
  refine ⟨_, rfl, ⟨hS, cA, aA, aB⟩, ?_⟩
  refine hx_take (i := 6) (oi := _) (v := .tuple #[mv, .bool true]) rfl rfl hns (by kernel_rfl) (by kernel_rfl) hQ (by kernel_rfl) (fun _ _ => by kernel_rfl) ⟨hS, cA, aA, aB⟩ ?_
  refine hx_take (i := 7) (oi := _) (v := mv) rfl rfl hns (by kernel_rfl) (by kernel_rfl) hQ (by kernel_rfl) (fun _ _ => by kernel_rfl) ⟨hS, cA, aA, aB⟩ ?_
  refine hx_take (i := 8) (oi := _) (v := .bool true) rfl rfl hns (by kernel_rfl) (by kernel_rfl) hQ (by kernel_rfl) (fun _ _ => by kernel_rfl) ⟨hS, cA, aA, aB⟩ ?_
  refine hx_take (i := 9) (oi := _) (v := mv) rfl rfl hns (by kernel_rfl) (by kernel_rfl) hQ (by kernel_rfl) (fun _ _ => by kernel_rfl) ⟨hS, cA, aA, aB⟩ ?_
  refine hx_take (i := 10) (oi := _) (v := .bool true) rfl rfl hns (by kernel_rfl) (by kernel_rfl) hQ (by kernel_rfl) (fun _ _ => by kernel_rfl) ⟨hS, cA, aA, aB⟩ ?_
  refine wpAnyH_done (by kernel_rfl) ?_ _
  clear hns hQ
  simp only [List.set_cons_zero, List.set_cons_succ]
  obtain ⟨a_c0, a_c1, a_c2, a_c3, a_c4, a_c5, a_c6, a_c7, a_c8, a_c9, a_c10⟩ := aB.all
  go_wp2_with fail
  refine (HCK.out _ (HE.out.next hS)).mono ?_
  rintro e w5 ⟨rfl, hb⟩
  clear a_c0 a_c1 a_c2 a_c3 a_c4 a_c5 a_c6 a_c7 a_c8 a_c9 a_c10
  go_wp2_with fail
  go_ret2
  exact ⟨rfl, hS.trans hb⟩
set_option maxHeartbeats 4000000 in
set_option maxRecDepth 100000 in
theorem tadd_old {B g mp np : Nat} {cv : Value} {R : List CallP} {S : List TCall} (i : Nat) (a_s a_p : List UInt8) (a_n : Int) (a_v0 a_v1 a_v2 a_v3 : Bool) (a_l0 a_l1 a_l2 a_l3 : List UInt8) (w : World) (h : TabAt w B g mp np cv R S) (hi : i < S.length) (hf : FitsN ((a_s, a_p, a_n, (a_v0, a_l0), (a_v1, a_l1), (a_v2, a_l2), (a_v3, a_l3)) : Atm)) (hE : Env w) (hkc : checkA (S[i]).1 = 0) (hx : (extH [] (S[i]).1 ((a_s, a_p, a_n, (a_v0, a_l0), (a_v1, a_l1), (a_v2, a_l2), (a_v3, a_l3)) : Atm)).isSome = true) (hk : checkA ((a_s, a_p, a_n, (a_v0, a_l0), (a_v1, a_l1), (a_v2, a_l2), (a_v3, a_l3)) : Atm) = 0) (j : Nat) (hp : posF (S[i]).2.1 ((a_s, a_p, a_n, (a_v0, a_l0), (a_v1, a_l1), (a_v2, a_l2), (a_v3, a_l3)) : Atm) 0 = some j) :
    Calls Tryz.prog 11 #[.pointer (some ⟨g, 0, none⟩), .int .i64 (i : Int), .agg #[.string ⟨a_s.toArray⟩, .string ⟨a_p.toArray⟩, .int .i64 a_n, .bool a_v0, .string ⟨a_l0.toArray⟩, .bool a_v1, .string ⟨a_l1.toArray⟩, .bool a_v2, .string ⟨a_l2.toArray⟩, .bool a_v3, .string ⟨a_l3.toArray⟩]] w fun e w' => e = .returned (.tuple #[.bool false, .int .i64 0]) ∧ Since w w' := by
  have hS : Since w (w.alloc (.cells #[.string ⟨a_s.toArray⟩, .string ⟨a_p.toArray⟩, .int .i64 a_n, .bool a_v0, .string ⟨a_l0.toArray⟩, .bool a_v1, .string ⟨a_l1.toArray⟩, .bool a_v2, .string ⟨a_l2.toArray⟩, .bool a_v3, .string ⟨a_l3.toArray⟩] 33)) := (Since.refl w).alloc _
  have aA : At (w.alloc (.cells #[.string ⟨a_s.toArray⟩, .string ⟨a_p.toArray⟩, .int .i64 a_n, .bool a_v0, .string ⟨a_l0.toArray⟩, .bool a_v1, .string ⟨a_l1.toArray⟩, .bool a_v2, .string ⟨a_l2.toArray⟩, .bool a_v3, .string ⟨a_l3.toArray⟩] 33)) w.heap.size 0 #[.string ⟨a_s.toArray⟩, .string ⟨a_p.toArray⟩, .int .i64 a_n, .bool a_v0, .string ⟨a_l0.toArray⟩, .bool a_v1, .string ⟨a_l1.toArray⟩, .bool a_v2, .string ⟨a_l2.toArray⟩, .bool a_v3, .string ⟨a_l3.toArray⟩] := Cel.at (heap_alloc_new w _)
  have aB : Box (w.alloc (.cells #[.string ⟨a_s.toArray⟩, .string ⟨a_p.toArray⟩, .int .i64 a_n, .bool a_v0, .string ⟨a_l0.toArray⟩, .bool a_v1, .string ⟨a_l1.toArray⟩, .bool a_v2, .string ⟨a_l2.toArray⟩, .bool a_v3, .string ⟨a_l3.toArray⟩] 33)) w.heap.size ((a_s, a_p, a_n, (a_v0, a_l0), (a_v1, a_l1), (a_v2, a_l2), (a_v3, a_l3)) : Atm) := box_new w ((a_s, a_p, a_n, (a_v0, a_l0), (a_v1, a_l1), (a_v2, a_l2), (a_v3, a_l3)) : Atm) _
  have hi2 : i < R.length := by rw [h.len]; exact hi
  have HAT := Lib.hid (tat_yes i _ (h.next hS) hi2)
  have hC := h.call i hi2 hi
  have HXS := Lib.hid hx
  have HR2 := Lib.hid hp
  obtain ⟨c, hc⟩ : ∃ c, Hid (c = S[i]) := ⟨S[i], rfl⟩
  obtain ⟨q, hq⟩ : ∃ q, Hid (q = R[i]) := ⟨R[i], rfl⟩
  rw [← hq.out] at HAT
  rw [← hc.out] at HXS hkc HR2
  have hC2 : CallAt w B q c := by rw [hq.out, hc.out]; exact hC
  clear hC
  have hC := hC2
  clear hC2
  clear h hi hi2 hc hq hx hp
  obtain ⟨qb, qt, qn, qa, qw⟩ := q
  obtain ⟨⟨c_s, c_p, c_n, ⟨c_v0, c_l0⟩, ⟨c_v1, c_l1⟩, ⟨c_v2, c_l2⟩, ⟨c_v3, c_l3⟩⟩, cs, cw⟩ := c
  simp only at HAT hkc HXS
  have hans := hC.ans
  simp only at hans
  obtain ⟨aa, ac, rfl⟩ : ∃ a k, qa = .slice a cs.length k := own_slice hans
  have hcl : Cel w qb (callC (((c_s, c_p, c_n, (c_v0, c_l0), (c_v1, c_l1), (c_v2, c_l2), (c_v3, c_l3)) : Atm), cs, cw) (.slice aa cs.length ac) qt qw) 70 := hC.cel
  have cA : At w qb 0 #[.string ⟨c_s.toArray⟩, .string ⟨c_p.toArray⟩, .int .i64 c_n, .bool c_v0, .string ⟨c_l0.toArray⟩, .bool c_v1, .string ⟨c_l1.toArray⟩, .bool c_v2, .string ⟨c_l2.toArray⟩, .bool c_v3, .string ⟨c_l3.toArray⟩] := at_half hcl
  have HE := Lib.hid hE
  have HMA := Lib.hid (fun W hE => match_flag c_s c_p c_n c_v0 c_v1 c_v2 c_v3 c_l0 c_l1 c_l2 c_l3 a_s a_p a_n a_v0 a_v1 a_v2 a_v3 a_l0 a_l1 a_l2 a_l3 hkc hf.1 HXS.out W hE)
  have HCK := Lib.hid (fun W (hE : Env W) => check_any a_s a_p a_n a_v0 a_v1 a_v2 a_v3 a_l0 a_l1 a_l2 a_l3 W hf.1 hE)
  rw [hk] at HCK
  have mA0 : At w qb 11 #[.slice aa cs.length ac, .map (some qt)] := at_two (hcl.cell 11) (hcl.cell 12)
  have hM0 : AIdx w qt qn cs := hC.map
  have HP : Hid (∀ y ∈ cs, FitsN y) := hC.fit.2
  have HFA := Lib.hid hf
  have HND : Hid cs.Nodup := hC.nd
  clear hC hans hcl hE hkc hk hf
  go_enter Tryz.func11, Tryz.ntmps11
  go_wp2_with fail
  refine HAT.out.mono ?_
  rintro e w2 ⟨rfl, hb⟩
  replace hS := hS.trans hb
  replace aA := aA.next hb
  replace aB := aB.next hb
  replace cA := cA.next hS
  clear HAT hb
  go_wp2_with fail
  replace hS := hS.trans ((Since.refl w2).drew)
  replace cA := cA.next ((Since.refl w2).drew)
  replace aA := aA.next ((Since.refl w2).drew)
  replace aB := aB.next ((Since.refl w2).drew)
  refine hx_begin (S := fun W => (Since w W) ∧ (At W qb 0 #[.string ⟨c_s.toArray⟩, .string ⟨c_p.toArray⟩, .int .i64 c_n, .bool c_v0, .string ⟨c_l0.toArray⟩, .bool c_v1, .string ⟨c_l1.toArray⟩, .bool c_v2, .string ⟨c_l2.toArray⟩, .bool c_v3, .string ⟨c_l3.toArray⟩]) ∧ (At W w.heap.size 0 #[.string ⟨a_s.toArray⟩, .string ⟨a_p.toArray⟩, .int .i64 a_n, .bool a_v0, .string ⟨a_l0.toArray⟩, .bool a_v1, .string ⟨a_l1.toArray⟩, .bool a_v2, .string ⟨a_l2.toArray⟩, .bool a_v3, .string ⟨a_l3.toArray⟩]) ∧ (Box W w.heap.size ((a_s, a_p, a_n, (a_v0, a_l0), (a_v1, a_l1), (a_v2, a_l2), (a_v3, a_l3)) : Atm))) (by kernel_rfl) ⟨hS, cA, aA, aB⟩ (by kernel_rfl) (fun _ _ _ _ _ h => h) (fun hns hQ => ?_)
  refine hx_take (i := 0) (oi := _) (v := .pointer (some ⟨qb, 0, none⟩)) rfl rfl hns (by kernel_rfl) (by kernel_rfl) hQ (by kernel_rfl) (fun _ _ => by kernel_rfl) ⟨hS, cA, aA, aB⟩ ?_
  refine hx_take (i := 1) (oi := _) (v := .pointer (some ⟨qb, 0, none⟩)) rfl rfl hns (by kernel_rfl) (by kernel_rfl) hQ (by kernel_rfl) (fun _ _ => by kernel_rfl) ⟨hS, cA, aA, aB⟩ ?_
  refine hx_take (i := 2) (oi := _) (v := .pointer (some ⟨qb, 0, none⟩)) rfl rfl hns (by kernel_rfl) (by kernel_rfl) hQ (by kernel_rfl) (fun _ _ => by kernel_rfl) ⟨hS, cA, aA, aB⟩ ?_
  refine hx_take (i := 3) (oi := _) (v := .agg #[.string ⟨c_s.toArray⟩, .string ⟨c_p.toArray⟩, .int .i64 c_n, .bool c_v0, .string ⟨c_l0.toArray⟩, .bool c_v1, .string ⟨c_l1.toArray⟩, .bool c_v2, .string ⟨c_l2.toArray⟩, .bool c_v3, .string ⟨c_l3.toArray⟩]) rfl rfl hns (by kernel_rfl) (by kernel_rfl) hQ (by kernel_rfl) (fun W hW => ld_at rfl (by kernel_rfl) (by kernel_rfl) (by kernel_rfl) W (hW.2.1)) ⟨hS, cA, aA, aB⟩ ?_
  refine hx_take (i := 4) (oi := _) (v := .agg #[.string ⟨a_s.toArray⟩, .string ⟨a_p.toArray⟩, .int .i64 a_n, .bool a_v0, .string ⟨a_l0.toArray⟩, .bool a_v1, .string ⟨a_l1.toArray⟩, .bool a_v2, .string ⟨a_l2.toArray⟩, .bool a_v3, .string ⟨a_l3.toArray⟩]) rfl rfl hns (by kernel_rfl) (by kernel_rfl) hQ (by kernel_rfl) (fun W hW => ld_at rfl (by kernel_rfl) (by kernel_rfl) (by kernel_rfl) W (hW.2.2.1)) ⟨hS, cA, aA, aB⟩ ?_
  refine hx_call (i := 5) (oi := _) 36 #[.agg #[.string ⟨c_s.toArray⟩, .string ⟨c_p.toArray⟩, .int .i64 c_n, .bool c_v0, .string ⟨c_l0.toArray⟩, .bool c_v1, .string ⟨c_l1.toArray⟩, .bool c_v2, .string ⟨c_l2.toArray⟩, .bool c_v3, .string ⟨c_l3.toArray⟩], .agg #[.string ⟨a_s.toArray⟩, .string ⟨a_p.toArray⟩, .int .i64 a_n, .bool a_v0, .string ⟨a_l0.toArray⟩, .bool a_v1, .string ⟨a_l1.toArray⟩, .bool a_v2, .string ⟨a_l2.toArray⟩, .bool a_v3, .string ⟨a_l3.toArray⟩]] rfl rfl (by kernel_rfl) (by kernel_rfl) (by kernel_rfl) (HMA.out _ (HE.out.next hS)) ?_
  rintro e wx61 ⟨mv, rfl, hb⟩
  replace hS := hS.trans hb
  replace cA := cA.next hb
  replace aA := aA.next hb
  replace aB := aB.next hb
  clear hb
  refine ⟨_, rfl, ⟨hS, cA, aA, aB⟩, ?_⟩
  refine hx_take (i := 6) (oi := _) (v := .tuple #[mv, .bool true]) rfl rfl hns (by kernel_rfl) (by kernel_rfl) hQ (by kernel_rfl) (fun _ _ => by kernel_rfl) ⟨hS, cA, aA, aB⟩ ?_
  refine hx_take (i := 7) (oi := _) (v := mv) rfl rfl hns (by kernel_rfl) (by kernel_rfl) hQ (by kernel_rfl) (fun _ _ => by kernel_rfl) ⟨hS, cA, aA, aB⟩ ?_
  refine hx_take (i := 8) (oi := _) (v := .bool true) rfl rfl hns (by kernel_rfl) (by kernel_rfl) hQ (by kernel_rfl) (fun _ _ => by kernel_rfl) ⟨hS, cA, aA, aB⟩ ?_
  refine hx_take (i := 9) (oi := _) (v := mv) rfl rfl hns (by kernel_rfl) (by kernel_rfl) hQ (by kernel_rfl) (fun _ _ => by kernel_rfl) ⟨hS, cA, aA, aB⟩ ?_
  refine hx_take (i := 10) (oi := _) (v := .bool true) rfl rfl hns (by kernel_rfl) (by kernel_rfl) hQ (by kernel_rfl) (fun _ _ => by kernel_rfl) ⟨hS, cA, aA, aB⟩ ?_
  refine wpAnyH_done (by kernel_rfl) ?_ _
  clear hns hQ
  simp only [List.set_cons_zero, List.set_cons_succ]
  obtain ⟨a_c0, a_c1, a_c2, a_c3, a_c4, a_c5, a_c6, a_c7, a_c8, a_c9, a_c10⟩ := aB.all
  clear aB
  go_wp2_with fail
  refine (HCK.out _ (HE.out.next hS)).mono ?_
  rintro e w5 ⟨rfl, hb⟩
  replace hS := hS.trans hb
  replace aA := aA.next hb
  have mA := mA0.next hS
  have hM := hM0.next hS
  clear a_c0 a_c1 a_c2 a_c3 a_c4 a_c5 a_c6 a_c7 a_c8 a_c9 a_c10 hb HCK HMA cA
  go_wp2_with fail
  replace hS := hS.trans ((Since.refl w5).drew)
  replace mA := mA.next ((Since.refl w5).drew)
  replace aA := aA.next ((Since.refl w5).drew)
  replace hM := hM.next ((Since.refl w5).drew)
  refine hx_begin (S := fun W => (Since w W) ∧ (At W qb 11 #[.slice aa cs.length ac, .map (some qt)]) ∧ (At W w.heap.size 0 #[.string ⟨a_s.toArray⟩, .string ⟨a_p.toArray⟩, .int .i64 a_n, .bool a_v0, .string ⟨a_l0.toArray⟩, .bool a_v1, .string ⟨a_l1.toArray⟩, .bool a_v2, .string ⟨a_l2.toArray⟩, .bool a_v3, .string ⟨a_l3.toArray⟩]) ∧ (AIdx W qt qn cs)) (by kernel_rfl) ⟨hS, mA, aA, hM⟩ (by kernel_rfl) (fun _ _ _ _ _ h => h) (fun hns hQ => ?_)
  refine hx_take (i := 0) (oi := _) (v := .pointer (some ⟨qb, 0, none⟩)) rfl rfl hns (by kernel_rfl) (by kernel_rfl) hQ (by kernel_rfl) (fun _ _ => by kernel_rfl) ⟨hS, mA, aA, hM⟩ ?_
  refine hx_take (i := 1) (oi := _) (v := .pointer (some ⟨qb, 0, none⟩)) rfl rfl hns (by kernel_rfl) (by kernel_rfl) hQ (by kernel_rfl) (fun _ _ => by kernel_rfl) ⟨hS, mA, aA, hM⟩ ?_
  refine hx_take (i := 2) (oi := _) (v := .pointer (some ⟨qb, 12, none⟩)) rfl rfl hns (by kernel_rfl) (by kernel_rfl) hQ (by kernel_rfl) (fun _ _ => by kernel_rfl) ⟨hS, mA, aA, hM⟩ ?_
  refine hx_take (i := 3) (oi := _) (v := .map (some qt)) rfl rfl hns (by kernel_rfl) (by kernel_rfl) hQ (by kernel_rfl) (fun W hW => ld_one rfl (by kernel_rfl) (by kernel_rfl) W (hW.2.1 1 _ rfl)) ⟨hS, mA, aA, hM⟩ ?_
  refine hx_take (i := 4) (oi := _) (v := .agg #[.string ⟨a_s.toArray⟩, .string ⟨a_p.toArray⟩, .int .i64 a_n, .bool a_v0, .string ⟨a_l0.toArray⟩, .bool a_v1, .string ⟨a_l1.toArray⟩, .bool a_v2, .string ⟨a_l2.toArray⟩, .bool a_v3, .string ⟨a_l3.toArray⟩]) rfl rfl hns (by kernel_rfl) (by kernel_rfl) hQ (by kernel_rfl) (fun W hW => ld_at rfl (by kernel_rfl) (by kernel_rfl) (by kernel_rfl) W (hW.2.2.1)) ⟨hS, mA, aA, hM⟩ ?_
  refine hx_take (i := 5) (oi := _) (v := .tuple #[.int .i64 (j : Int), .bool true]) rfl rfl hns (by kernel_rfl) (by kernel_rfl) hQ (by kernel_rfl) (fun W hW => alook_i a_s a_p a_n a_v0 a_v1 a_v2 a_v3 a_l0 a_l1 a_l2 a_l3 HP.out HFA.out HND.out HR2.out rfl (by kernel_rfl) (by kernel_rfl) W (hW.2.2.2)) ⟨hS, mA, aA, hM⟩ ?_
  refine hx_take (i := 6) (oi := _) (v := .tuple #[.int .i64 (j : Int), .bool true]) rfl rfl hns (by kernel_rfl) (by kernel_rfl) hQ (by kernel_rfl) (fun _ _ => by kernel_rfl) ⟨hS, mA, aA, hM⟩ ?_
  refine hx_take (i := 7) (oi := _) (v := .int .i64 (j : Int)) rfl rfl hns (by kernel_rfl) (by kernel_rfl) hQ (by kernel_rfl) (fun _ _ => by kernel_rfl) ⟨hS, mA, aA, hM⟩ ?_
  refine hx_take (i := 8) (oi := _) (v := .bool true) rfl rfl hns (by kernel_rfl) (by kernel_rfl) hQ (by kernel_rfl) (fun _ _ => by kernel_rfl) ⟨hS, mA, aA, hM⟩ ?_
  refine hx_take (i := 9) (oi := _) (v := .int .i64 (j : Int)) rfl rfl hns (by kernel_rfl) (by kernel_rfl) hQ (by kernel_rfl) (fun _ _ => by kernel_rfl) ⟨hS, mA, aA, hM⟩ ?_
  refine hx_take (i := 10) (oi := _) (v := .bool true) rfl rfl hns (by kernel_rfl) (by kernel_rfl) hQ (by kernel_rfl) (fun _ _ => by kernel_rfl) ⟨hS, mA, aA, hM⟩ ?_
  refine wpAnyH_done (by kernel_rfl) ?_ _
  clear hns hQ
  simp only [List.set_cons_zero, List.set_cons_succ]
  go_wp2_with fail
  go_ret2
  exact ⟨rfl, hS⟩
set_option maxHeartbeats 8000000 in
set_option maxRecDepth 100000 in
theorem tadd_new {B g mp np : Nat} {cv : Value} {R : List CallP} {S : List TCall} (i : Nat) (a_s a_p : List UInt8) (a_n : Int) (a_v0 a_v1 a_v2 a_v3 : Bool) (a_l0 a_l1 a_l2 a_l3 : List UInt8) (w : World) (h : TabAt w B g mp np cv R S) (hi : i < S.length) (hf : FitsN ((a_s, a_p, a_n, (a_v0, a_l0), (a_v1, a_l1), (a_v2, a_l2), (a_v3, a_l3)) : Atm)) (hE : Env w) (hkc : checkA (S[i]).1 = 0) (hx : (extH [] (S[i]).1 ((a_s, a_p, a_n, (a_v0, a_l0), (a_v1, a_l1), (a_v2, a_l2), (a_v3, a_l3)) : Atm)).isSome = true) (hk : checkA ((a_s, a_p, a_n, (a_v0, a_l0), (a_v1, a_l1), (a_v2, a_l2), (a_v3, a_l3)) : Atm) = 0) (hp : posF (S[i]).2.1 ((a_s, a_p, a_n, (a_v0, a_l0), (a_v1, a_l1), (a_v2, a_l2), (a_v3, a_l3)) : Atm) 0 = none) (hl : (S[i]).2.1.length < 100000) (hcn : cntS S < 1000000) (hBw : B ≤ w.heap.size) :
    Calls Tryz.prog 11 #[.pointer (some ⟨g, 0, none⟩), .int .i64 (i : Int), .agg #[.string ⟨a_s.toArray⟩, .string ⟨a_p.toArray⟩, .int .i64 a_n, .bool a_v0, .string ⟨a_l0.toArray⟩, .bool a_v1, .string ⟨a_l1.toArray⟩, .bool a_v2, .string ⟨a_l2.toArray⟩, .bool a_v3, .string ⟨a_l3.toArray⟩]] w fun e w' => e = .returned (.tuple #[.bool true, .int .i64 0]) ∧ ∃ R', TabAt w' B g mp np cv R' (S.set i (addC S[i] ((a_s, a_p, a_n, (a_v0, a_l0), (a_v1, a_l1), (a_v2, a_l2), (a_v3, a_l3)) : Atm))) ∧ (∀ b, TabB g mp cv R' b → TabB g mp cv R b ∨ w.heap.size ≤ b) ∧ Keep (TabB g mp cv R) w w' := by
  have hS : Since w (w.alloc (.cells #[.string ⟨a_s.toArray⟩, .string ⟨a_p.toArray⟩, .int .i64 a_n, .bool a_v0, .string ⟨a_l0.toArray⟩, .bool a_v1, .string ⟨a_l1.toArray⟩, .bool a_v2, .string ⟨a_l2.toArray⟩, .bool a_v3, .string ⟨a_l3.toArray⟩] 33)) := (Since.refl w).alloc _
  have aA : At (w.alloc (.cells #[.string ⟨a_s.toArray⟩, .string ⟨a_p.toArray⟩, .int .i64 a_n, .bool a_v0, .string ⟨a_l0.toArray⟩, .bool a_v1, .string ⟨a_l1.toArray⟩, .bool a_v2, .string ⟨a_l2.toArray⟩, .bool a_v3, .string ⟨a_l3.toArray⟩] 33)) w.heap.size 0 #[.string ⟨a_s.toArray⟩, .string ⟨a_p.toArray⟩, .int .i64 a_n, .bool a_v0, .string ⟨a_l0.toArray⟩, .bool a_v1, .string ⟨a_l1.toArray⟩, .bool a_v2, .string ⟨a_l2.toArray⟩, .bool a_v3, .string ⟨a_l3.toArray⟩] := Cel.at (heap_alloc_new w _)
  have aB : Box (w.alloc (.cells #[.string ⟨a_s.toArray⟩, .string ⟨a_p.toArray⟩, .int .i64 a_n, .bool a_v0, .string ⟨a_l0.toArray⟩, .bool a_v1, .string ⟨a_l1.toArray⟩, .bool a_v2, .string ⟨a_l2.toArray⟩, .bool a_v3, .string ⟨a_l3.toArray⟩] 33)) w.heap.size ((a_s, a_p, a_n, (a_v0, a_l0), (a_v1, a_l1), (a_v2, a_l2), (a_v3, a_l3)) : Atm) := box_new w ((a_s, a_p, a_n, (a_v0, a_l0), (a_v1, a_l1), (a_v2, a_l2), (a_v3, a_l3)) : Atm) _
  have hi2 : i < R.length := by rw [h.len]; exact hi
  have HAT := Lib.hid (tat_yes i _ (h.next hS) hi2)
  have hC := h.call i hi2 hi
  have HXS := Lib.hid hx
  have HR2 := Lib.hid hp
  obtain ⟨Q, hQ⟩ : ∃ Q : World → Prop, Hid (Q = fun w' => ∃ R', TabAt w' B g mp np cv R' (S.set i (addC S[i] ((a_s, a_p, a_n, (a_v0, a_l0), (a_v1, a_l1), (a_v2, a_l2), (a_v3, a_l3)) : Atm))) ∧ (∀ b, TabB g mp cv R' b → TabB g mp cv R b ∨ w.heap.size ≤ b) ∧ Keep (TabB g mp cv R) w w') := ⟨fun w' => ∃ R', TabAt w' B g mp np cv R' (S.set i (addC S[i] ((a_s, a_p, a_n, (a_v0, a_l0), (a_v1, a_l1), (a_v2, a_l2), (a_v3, a_l3)) : Atm))) ∧ (∀ b, TabB g mp cv R' b → TabB g mp cv R b ∨ w.heap.size ≤ b) ∧ Keep (TabB g mp cv R) w w', rfl⟩
  have hQ2 : ∀ w', (∃ R', TabAt w' B g mp np cv R' (S.set i (addC S[i] ((a_s, a_p, a_n, (a_v0, a_l0), (a_v1, a_l1), (a_v2, a_l2), (a_v3, a_l3)) : Atm))) ∧ (∀ b, TabB g mp cv R' b → TabB g mp cv R b ∨ w.heap.size ≤ b) ∧ Keep (TabB g mp cv R) w w') = Q w' := fun w' => by rw [hQ.out]
  have HWD : Hid (∀ (W8 Wm Wa W3 : World) (v' : Value), Since w W8 → W8.grownBy Wm (some R[i].th) → AIdx Wm R[i].th (R[i].nt + 1) ((S[i]).2.1 ++ [((a_s, a_p, a_n, (a_v0, a_l0), (a_v1, a_l1), (a_v2, a_l2), (a_v3, a_l3)) : Atm)]) → Since Wm Wa → Wa.grownBy W3 R[i].av.ownBlock → W3.ownsRow B 33 11 v' ((S[i]).2.1.length + 1) ((S[i]).2.1.flatMap atmL ++ (atmC ((a_s, a_p, a_n, (a_v0, a_l0), (a_v1, a_l1), (a_v2, a_l2), (a_v3, a_l3)) : Atm)).toList) → (v'.ownBlock = R[i].av.ownBlock ∨ v'.ownBlock = some Wa.heap.size) → Q ((W3.setCell ⟨R[i].b, 11, none⟩ v').setCell ⟨g, 2, none⟩ (.int .i64 ((cntS S : Int) + 1)))) := by
    intro W8 Wm Wa W3 v' x1 x2 x3 x4 x5 x6 x7
    rw [← hQ2]
    exact h.added hi2 hi ((a_s, a_p, a_n, (a_v0, a_l0), (a_v1, a_l1), (a_v2, a_l2), (a_v3, a_l3)) : Atm) x1 x2 x3 x4 x5 x6 x7 hl hp hf
  have hgc : Cel w g #[.map (some mp), cv, .int .i64 (cntS S : Int)] 65 := h.cel
  have HGA : Hid (some g ≠ some R[i].th ∧ some g ≠ R[i].av.ownBlock ∧ R[i].b ≠ g) := ⟨fun e => (h.head_apart hi2 hi _ (.inr (.inl rfl))).1 (by injection e with e; exact e.symm), fun e => (h.head_apart hi2 hi g (.inr (.inr (.inl e.symm)))).1 rfl, (h.head_apart hi2 hi _ (.inl rfl)).1⟩
  have HLT : Hid (R[i].th < w.heap.size ∧ R[i].b < w.heap.size ∧ ∀ b, R[i].av.ownBlock = some b → b < w.heap.size) := ⟨hC.map.lt, hC.cel.lt, fun b hb => (hC.ans.lt b hb).2⟩
  simp only [hQ2]
  clear hQ hQ2
  obtain ⟨cn, hcn0⟩ : ∃ n, Hid (n = cntS S) := ⟨_, rfl⟩
  rw [← hcn0.out] at HWD hgc hcn
  obtain ⟨c, hc⟩ : ∃ c, Hid (c = S[i]) := ⟨S[i], rfl⟩
  obtain ⟨q, hq⟩ : ∃ q, Hid (q = R[i]) := ⟨R[i], rfl⟩
  rw [← hq.out] at HAT HWD HGA HLT
  rw [← hc.out] at HXS hkc HR2 HWD hl
  have hC2 : CallAt w B q c := by rw [hq.out, hc.out]; exact hC
  clear hC
  have hC := hC2
  clear hC2
  clear h hi hi2 hc hq hx hp hcn0
  obtain ⟨qb, qt, qn, qa, qw⟩ := q
  obtain ⟨⟨c_s, c_p, c_n, ⟨c_v0, c_l0⟩, ⟨c_v1, c_l1⟩, ⟨c_v2, c_l2⟩, ⟨c_v3, c_l3⟩⟩, cs, cw⟩ := c
  simp only at HAT hkc HXS HWD hl HGA HLT
  have hans := hC.ans
  simp only at hans
  obtain ⟨aa, ac, rfl⟩ : ∃ a k, qa = .slice a cs.length k := own_slice hans
  have hcl : Cel w qb (callC (((c_s, c_p, c_n, (c_v0, c_l0), (c_v1, c_l1), (c_v2, c_l2), (c_v3, c_l3)) : Atm), cs, cw) (.slice aa cs.length ac) qt qw) 70 := hC.cel
  have cA : At w qb 0 #[.string ⟨c_s.toArray⟩, .string ⟨c_p.toArray⟩, .int .i64 c_n, .bool c_v0, .string ⟨c_l0.toArray⟩, .bool c_v1, .string ⟨c_l1.toArray⟩, .bool c_v2, .string ⟨c_l2.toArray⟩, .bool c_v3, .string ⟨c_l3.toArray⟩] := at_half hcl
  have HE := Lib.hid hE
  have HMA := Lib.hid (fun W hE => match_flag c_s c_p c_n c_v0 c_v1 c_v2 c_v3 c_l0 c_l1 c_l2 c_l3 a_s a_p a_n a_v0 a_v1 a_v2 a_v3 a_l0 a_l1 a_l2 a_l3 hkc hf.1 HXS.out W hE)
  have HCK := Lib.hid (fun W (hE : Env W) => check_any a_s a_p a_n a_v0 a_v1 a_v2 a_v3 a_l0 a_l1 a_l2 a_l3 W hf.1 hE)
  rw [hk] at HCK
  have mA0 : At w qb 11 #[.slice aa cs.length ac, .map (some qt)] := at_two (hcl.cell 11) (hcl.cell 12)
  have hM0 : AIdx w qt qn cs := hC.map
  have HP : Hid (∀ y ∈ cs, FitsN y) := hC.fit.2
  have HFA := Lib.hid hf
  have HND : Hid cs.Nodup := hC.nd
  have HPB : Hid (cs.length ≤ 1000000) := by show _ ≤ _; omega
  have HNP : Hid (qn < maxLen) := by have := hC.ln; simp only at this; show _ < _; unfold maxLen; omega
  have HOW := Lib.hid hans
  have HCL := Lib.hid hcl
  have HGC := Lib.hid hgc
  have HQT : Hid (some qb ≠ some qt) := fun e => kidx_cel_ne hC.map hcl (by injection e with e; exact e.symm)
  have HAQ : Hid ((Value.slice aa cs.length ac).ownBlock = none ∨ (Value.slice aa cs.length ac).ownBlock ≠ some qt) := .inr fun e => kidx_own_ne hC.map hans e.symm
  have HHA : Hid (some w.heap.size ≠ some qt) := fun e => by injection e with e; have := HLT.out.1; omega
  obtain ⟨D, hD⟩ : ∃ D, Hid (D = cs.flatMap atmL) := ⟨_, rfl⟩
  rw [← hD.out] at HWD HOW
  obtain ⟨i5, hi5, hz0, hz1, hz2⟩ := info_parts own_atm_info
  have I5 := Lib.hid (And.intro hi5 (And.intro hz0 (And.intro hz1 hz2)))
  clear hC hans hcl hE hkc hk hf hgc hi5 hz0 hz1 hz2
  go_enter Tryz.func11, Tryz.ntmps11
  go_wp2_with fail
  refine HAT.out.mono ?_
  rintro e w2 ⟨rfl, hb⟩
  replace hS := hS.trans hb
  replace aA := aA.next hb
  replace aB := aB.next hb
  replace cA := cA.next hS
  clear HAT hb
  go_wp2_with fail
  replace hS := hS.trans ((Since.refl w2).drew)
  replace cA := cA.next ((Since.refl w2).drew)
  replace aA := aA.next ((Since.refl w2).drew)
  replace aB := aB.next ((Since.refl w2).drew)
  refine hx_begin (S := fun W => (Since w W) ∧ (At W qb 0 #[.string ⟨c_s.toArray⟩, .string ⟨c_p.toArray⟩, .int .i64 c_n, .bool c_v0, .string ⟨c_l0.toArray⟩, .bool c_v1, .string ⟨c_l1.toArray⟩, .bool c_v2, .string ⟨c_l2.toArray⟩, .bool c_v3, .string ⟨c_l3.toArray⟩]) ∧ (At W w.heap.size 0 #[.string ⟨a_s.toArray⟩, .string ⟨a_p.toArray⟩, .int .i64 a_n, .bool a_v0, .string ⟨a_l0.toArray⟩, .bool a_v1, .string ⟨a_l1.toArray⟩, .bool a_v2, .string ⟨a_l2.toArray⟩, .bool a_v3, .string ⟨a_l3.toArray⟩]) ∧ (Box W w.heap.size ((a_s, a_p, a_n, (a_v0, a_l0), (a_v1, a_l1), (a_v2, a_l2), (a_v3, a_l3)) : Atm))) (by kernel_rfl) ⟨hS, cA, aA, aB⟩ (by kernel_rfl) (fun _ _ _ _ _ h => h) (fun hns hQ => ?_)
  refine hx_take (i := 0) (oi := _) (v := .pointer (some ⟨qb, 0, none⟩)) rfl rfl hns (by kernel_rfl) (by kernel_rfl) hQ (by kernel_rfl) (fun _ _ => by kernel_rfl) ⟨hS, cA, aA, aB⟩ ?_
  refine hx_take (i := 1) (oi := _) (v := .pointer (some ⟨qb, 0, none⟩)) rfl rfl hns (by kernel_rfl) (by kernel_rfl) hQ (by kernel_rfl) (fun _ _ => by kernel_rfl) ⟨hS, cA, aA, aB⟩ ?_
  refine hx_take (i := 2) (oi := _) (v := .pointer (some ⟨qb, 0, none⟩)) rfl rfl hns (by kernel_rfl) (by kernel_rfl) hQ (by kernel_rfl) (fun _ _ => by kernel_rfl) ⟨hS, cA, aA, aB⟩ ?_
  refine hx_take (i := 3) (oi := _) (v := .agg #[.string ⟨c_s.toArray⟩, .string ⟨c_p.toArray⟩, .int .i64 c_n, .bool c_v0, .string ⟨c_l0.toArray⟩, .bool c_v1, .string ⟨c_l1.toArray⟩, .bool c_v2, .string ⟨c_l2.toArray⟩, .bool c_v3, .string ⟨c_l3.toArray⟩]) rfl rfl hns (by kernel_rfl) (by kernel_rfl) hQ (by kernel_rfl) (fun W hW => ld_at rfl (by kernel_rfl) (by kernel_rfl) (by kernel_rfl) W (hW.2.1)) ⟨hS, cA, aA, aB⟩ ?_
  refine hx_take (i := 4) (oi := _) (v := .agg #[.string ⟨a_s.toArray⟩, .string ⟨a_p.toArray⟩, .int .i64 a_n, .bool a_v0, .string ⟨a_l0.toArray⟩, .bool a_v1, .string ⟨a_l1.toArray⟩, .bool a_v2, .string ⟨a_l2.toArray⟩, .bool a_v3, .string ⟨a_l3.toArray⟩]) rfl rfl hns (by kernel_rfl) (by kernel_rfl) hQ (by kernel_rfl) (fun W hW => ld_at rfl (by kernel_rfl) (by kernel_rfl) (by kernel_rfl) W (hW.2.2.1)) ⟨hS, cA, aA, aB⟩ ?_
  refine hx_call (i := 5) (oi := _) 36 #[.agg #[.string ⟨c_s.toArray⟩, .string ⟨c_p.toArray⟩, .int .i64 c_n, .bool c_v0, .string ⟨c_l0.toArray⟩, .bool c_v1, .string ⟨c_l1.toArray⟩, .bool c_v2, .string ⟨c_l2.toArray⟩, .bool c_v3, .string ⟨c_l3.toArray⟩], .agg #[.string ⟨a_s.toArray⟩, .string ⟨a_p.toArray⟩, .int .i64 a_n, .bool a_v0, .string ⟨a_l0.toArray⟩, .bool a_v1, .string ⟨a_l1.toArray⟩, .bool a_v2, .string ⟨a_l2.toArray⟩, .bool a_v3, .string ⟨a_l3.toArray⟩]] rfl rfl (by kernel_rfl) (by kernel_rfl) (by kernel_rfl) (HMA.out _ (HE.out.next hS)) ?_
  rintro e wx61 ⟨mv, rfl, hb⟩
  replace hS := hS.trans hb
  replace cA := cA.next hb
  replace aA := aA.next hb
  replace aB := aB.next hb
  clear hb
  refine ⟨_, rfl, ⟨hS, cA, aA, aB⟩, ?_⟩
  refine hx_take (i := 6) (oi := _) (v := .tuple #[mv, .bool true]) rfl rfl hns (by kernel_rfl) (by kernel_rfl) hQ (by kernel_rfl) (fun _ _ => by kernel_rfl) ⟨hS, cA, aA, aB⟩ ?_
  refine hx_take (i := 7) (oi := _) (v := mv) rfl rfl hns (by kernel_rfl) (by kernel_rfl) hQ (by kernel_rfl) (fun _ _ => by kernel_rfl) ⟨hS, cA, aA, aB⟩ ?_
  refine hx_take (i := 8) (oi := _) (v := .bool true) rfl rfl hns (by kernel_rfl) (by kernel_rfl) hQ (by kernel_rfl) (fun _ _ => by kernel_rfl) ⟨hS, cA, aA, aB⟩ ?_
  refine hx_take (i := 9) (oi := _) (v := mv) rfl rfl hns (by kernel_rfl) (by kernel_rfl) hQ (by kernel_rfl) (fun _ _ => by kernel_rfl) ⟨hS, cA, aA, aB⟩ ?_
  refine hx_take (i := 10) (oi := _) (v := .bool true) rfl rfl hns (by kernel_rfl) (by kernel_rfl) hQ (by kernel_rfl) (fun _ _ => by kernel_rfl) ⟨hS, cA, aA, aB⟩ ?_
  refine wpAnyH_done (by kernel_rfl) ?_ _
  clear hns hQ
  simp only [List.set_cons_zero, List.set_cons_succ]
  obtain ⟨a_c0, a_c1, a_c2, a_c3, a_c4, a_c5, a_c6, a_c7, a_c8, a_c9, a_c10⟩ := aB.all
  clear aB
  go_wp2_with fail
  refine (HCK.out _ (HE.out.next hS)).mono ?_
  rintro e w5 ⟨rfl, hb⟩
  replace hS := hS.trans hb
  replace aA := aA.next hb
  have mA := mA0.next hS
  have hM := hM0.next hS
  clear a_c0 a_c1 a_c2 a_c3 a_c4 a_c5 a_c6 a_c7 a_c8 a_c9 a_c10 hb HCK HMA cA
  go_wp2_with fail
  replace hS := hS.trans ((Since.refl w5).drew)
  replace mA := mA.next ((Since.refl w5).drew)
  replace aA := aA.next ((Since.refl w5).drew)
  replace hM := hM.next ((Since.refl w5).drew)
  refine hx_begin (S := fun W => (Since w W) ∧ (At W qb 11 #[.slice aa cs.length ac, .map (some qt)]) ∧ (At W w.heap.size 0 #[.string ⟨a_s.toArray⟩, .string ⟨a_p.toArray⟩, .int .i64 a_n, .bool a_v0, .string ⟨a_l0.toArray⟩, .bool a_v1, .string ⟨a_l1.toArray⟩, .bool a_v2, .string ⟨a_l2.toArray⟩, .bool a_v3, .string ⟨a_l3.toArray⟩]) ∧ (AIdx W qt qn cs)) (by kernel_rfl) ⟨hS, mA, aA, hM⟩ (by kernel_rfl) (fun _ _ _ _ _ h => h) (fun hns hQ => ?_)
  refine hx_take (i := 0) (oi := _) (v := .pointer (some ⟨qb, 0, none⟩)) rfl rfl hns (by kernel_rfl) (by kernel_rfl) hQ (by kernel_rfl) (fun _ _ => by kernel_rfl) ⟨hS, mA, aA, hM⟩ ?_
  refine hx_take (i := 1) (oi := _) (v := .pointer (some ⟨qb, 0, none⟩)) rfl rfl hns (by kernel_rfl) (by kernel_rfl) hQ (by kernel_rfl) (fun _ _ => by kernel_rfl) ⟨hS, mA, aA, hM⟩ ?_
  refine hx_take (i := 2) (oi := _) (v := .pointer (some ⟨qb, 12, none⟩)) rfl rfl hns (by kernel_rfl) (by kernel_rfl) hQ (by kernel_rfl) (fun _ _ => by kernel_rfl) ⟨hS, mA, aA, hM⟩ ?_
  refine hx_take (i := 3) (oi := _) (v := .map (some qt)) rfl rfl hns (by kernel_rfl) (by kernel_rfl) hQ (by kernel_rfl) (fun W hW => ld_one rfl (by kernel_rfl) (by kernel_rfl) W (hW.2.1 1 _ rfl)) ⟨hS, mA, aA, hM⟩ ?_
  refine hx_take (i := 4) (oi := _) (v := .agg #[.string ⟨a_s.toArray⟩, .string ⟨a_p.toArray⟩, .int .i64 a_n, .bool a_v0, .string ⟨a_l0.toArray⟩, .bool a_v1, .string ⟨a_l1.toArray⟩, .bool a_v2, .string ⟨a_l2.toArray⟩, .bool a_v3, .string ⟨a_l3.toArray⟩]) rfl rfl hns (by kernel_rfl) (by kernel_rfl) hQ (by kernel_rfl) (fun W hW => ld_at rfl (by kernel_rfl) (by kernel_rfl) (by kernel_rfl) W (hW.2.2.1)) ⟨hS, mA, aA, hM⟩ ?_
  refine hx_take (i := 5) (oi := _) (v := .tuple #[.int .i64 0, .bool false]) rfl rfl hns (by kernel_rfl) (by kernel_rfl) hQ (by kernel_rfl) (fun W hW => alook_i a_s a_p a_n a_v0 a_v1 a_v2 a_v3 a_l0 a_l1 a_l2 a_l3 HP.out HFA.out HND.out HR2.out rfl (by kernel_rfl) (by kernel_rfl) W (hW.2.2.2)) ⟨hS, mA, aA, hM⟩ ?_
  refine hx_take (i := 6) (oi := _) (v := .tuple #[.int .i64 0, .bool false]) rfl rfl hns (by kernel_rfl) (by kernel_rfl) hQ (by kernel_rfl) (fun _ _ => by kernel_rfl) ⟨hS, mA, aA, hM⟩ ?_
  refine hx_take (i := 7) (oi := _) (v := .int .i64 0) rfl rfl hns (by kernel_rfl) (by kernel_rfl) hQ (by kernel_rfl) (fun _ _ => by kernel_rfl) ⟨hS, mA, aA, hM⟩ ?_
  refine hx_take (i := 8) (oi := _) (v := .bool false) rfl rfl hns (by kernel_rfl) (by kernel_rfl) hQ (by kernel_rfl) (fun _ _ => by kernel_rfl) ⟨hS, mA, aA, hM⟩ ?_
  refine hx_take (i := 9) (oi := _) (v := .int .i64 0) rfl rfl hns (by kernel_rfl) (by kernel_rfl) hQ (by kernel_rfl) (fun _ _ => by kernel_rfl) ⟨hS, mA, aA, hM⟩ ?_
  refine hx_take (i := 10) (oi := _) (v := .bool false) rfl rfl hns (by kernel_rfl) (by kernel_rfl) hQ (by kernel_rfl) (fun _ _ => by kernel_rfl) ⟨hS, mA, aA, hM⟩ ?_
  refine wpAnyH_done (by kernel_rfl) ?_ _
  clear hns hQ
  simp only [List.set_cons_zero, List.set_cons_succ]
  go_wp2_with fail
  generalize hw8 : w5.drew = w8 at *
  clear hw8
  clear hM mA
  have hS8 := hS
  have hM := hM0.next hS8
  have mA := mA0.next hS8
  have hS12 : Since w w8.drew := hS8.drew
  replace aA := aA.next ((Since.refl w8).drew)
  replace mA := mA.next ((Since.refl w8).drew)
  replace hM := hM.next ((Since.refl w8).drew)
  refine hx_begin (S := fun W => (At W w.heap.size 0 #[.string ⟨a_s.toArray⟩, .string ⟨a_p.toArray⟩, .int .i64 a_n, .bool a_v0, .string ⟨a_l0.toArray⟩, .bool a_v1, .string ⟨a_l1.toArray⟩, .bool a_v2, .string ⟨a_l2.toArray⟩, .bool a_v3, .string ⟨a_l3.toArray⟩]) ∧ (At W qb 11 #[.slice aa cs.length ac, .map (some qt)])) (by kernel_rfl) ⟨aA, mA⟩ (by kernel_rfl) (fun _ _ _ _ _ h => h) (fun hns hQ => ?_)
  refine hx_take (i := 0) (oi := _) (v := .pointer (some ⟨qb, 0, none⟩)) rfl rfl hns (by kernel_rfl) (by kernel_rfl) hQ (by kernel_rfl) (fun _ _ => by kernel_rfl) ⟨aA, mA⟩ ?_
  refine hx_take (i := 1) (oi := _) (v := .pointer (some ⟨qb, 0, none⟩)) rfl rfl hns (by kernel_rfl) (by kernel_rfl) hQ (by kernel_rfl) (fun _ _ => by kernel_rfl) ⟨aA, mA⟩ ?_
  refine hx_take (i := 2) (oi := _) (v := .pointer (some ⟨qb, 12, none⟩)) rfl rfl hns (by kernel_rfl) (by kernel_rfl) hQ (by kernel_rfl) (fun _ _ => by kernel_rfl) ⟨aA, mA⟩ ?_
  refine hx_take (i := 3) (oi := _) (v := .map (some qt)) rfl rfl hns (by kernel_rfl) (by kernel_rfl) hQ (by kernel_rfl) (fun W hW => ld_one rfl (by kernel_rfl) (by kernel_rfl) W (hW.2 1 _ rfl)) ⟨aA, mA⟩ ?_
  refine hx_take (i := 4) (oi := _) (v := .agg #[.string ⟨a_s.toArray⟩, .string ⟨a_p.toArray⟩, .int .i64 a_n, .bool a_v0, .string ⟨a_l0.toArray⟩, .bool a_v1, .string ⟨a_l1.toArray⟩, .bool a_v2, .string ⟨a_l2.toArray⟩, .bool a_v3, .string ⟨a_l3.toArray⟩]) rfl rfl hns (by kernel_rfl) (by kernel_rfl) hQ (by kernel_rfl) (fun W hW => ld_at rfl (by kernel_rfl) (by kernel_rfl) (by kernel_rfl) W (hW.1)) ⟨aA, mA⟩ ?_
  refine hx_take (i := 5) (oi := _) (v := .pointer (some ⟨qb, 0, none⟩)) rfl rfl hns (by kernel_rfl) (by kernel_rfl) hQ (by kernel_rfl) (fun _ _ => by kernel_rfl) ⟨aA, mA⟩ ?_
  refine hx_take (i := 6) (oi := _) (v := .pointer (some ⟨qb, 0, none⟩)) rfl rfl hns (by kernel_rfl) (by kernel_rfl) hQ (by kernel_rfl) (fun _ _ => by kernel_rfl) ⟨aA, mA⟩ ?_
  refine hx_take (i := 7) (oi := _) (v := .pointer (some ⟨qb, 11, none⟩)) rfl rfl hns (by kernel_rfl) (by kernel_rfl) hQ (by kernel_rfl) (fun _ _ => by kernel_rfl) ⟨aA, mA⟩ ?_
  refine hx_take (i := 8) (oi := _) (v := .slice aa cs.length ac) rfl rfl hns (by kernel_rfl) (by kernel_rfl) hQ (by kernel_rfl) (fun W hW => ld_one rfl (by kernel_rfl) (by kernel_rfl) W (hW.2 0 _ rfl)) ⟨aA, mA⟩ ?_
  refine hx_take (i := 9) (oi := _) (v := .int .i64 (cs.length : Int)) rfl rfl hns (by kernel_rfl) (by kernel_rfl) hQ (by kernel_rfl) (fun _ _ => by kernel_rfl) ⟨aA, mA⟩ ?_
  obtain ⟨wx71, hrun, hset, hgrow⟩ := kidx_put hM aklaw Tryz.underlying60 ((a_s, a_p, a_n, (a_v0, a_l0), (a_v1, a_l1), (a_v2, a_l2), (a_v3, a_l3)) : Atm) HNP.out HPB.out (keyOf_atom a_s a_p a_n a_v0 a_v1 a_v2 a_v3 a_l0 a_l1 a_l2 a_l3 HFA.out)
  replace aA := aA.far hgrow HHA.out
  replace mA := mA.far hgrow HQT.out
  refine hx_store (i := 10) (oi := _) wx71 rfl rfl (by kernel_rfl) (by kernel_rfl) (upd_run rfl (by kernel_rfl) (by kernel_rfl) (by kernel_rfl) hrun) ⟨aA, mA⟩ ?_
  refine wpAnyH_done (by kernel_rfl) ?_ _
  clear hns hQ
  simp only [List.set_cons_zero, List.set_cons_succ]
  have hg13 : Cel wx71 g #[.map (some mp), cv, .int .i64 (cn : Int)] 65 := (HGC.out.next hS12).grown hgrow HGA.out.1
  have hc13 : Cel wx71 qb (callC (((c_s, c_p, c_n, (c_v0, c_l0), (c_v1, c_l1), (c_v2, c_l2), (c_v3, c_l3)) : Atm), cs, cw) (.slice aa cs.length ac) qt qw) 70 := (HCL.out.next hS12).grown hgrow HQT.out
  have ho13 : wx71.ownsRow B 33 11 (.slice aa cs.length ac) cs.length D := (own_since HOW.out hS12).kept hgrow HAQ.out
  have hsz : B ≤ wx71.heap.size := Nat.le_trans hBw (Nat.le_trans hS12.size hgrow.size)
  clear mA hM
  go_wp2_with fail
  have hN : Since wx71 wx71 := Since.refl _
  replace hc13 := hc13.next ((Since.refl wx71).drew)
  replace hg13 := hg13.next ((Since.refl wx71).drew)
  replace ho13 := own_since ho13 ((Since.refl wx71).drew)
  replace hN := hN.trans ((Since.refl wx71).drew)
  replace aA := aA.next ((Since.refl wx71).drew)
  refine hx_begin (S := fun W => (At W w.heap.size 0 #[.string ⟨a_s.toArray⟩, .string ⟨a_p.toArray⟩, .int .i64 a_n, .bool a_v0, .string ⟨a_l0.toArray⟩, .bool a_v1, .string ⟨a_l1.toArray⟩, .bool a_v2, .string ⟨a_l2.toArray⟩, .bool a_v3, .string ⟨a_l3.toArray⟩])) (by kernel_rfl) aA (by kernel_rfl) (fun _ _ _ _ _ h => h) (fun hns hQ => ?_)
  refine hx_take (i := 0) (oi := _) (v := .pointer (some ⟨qb, 0, none⟩)) rfl rfl hns (by kernel_rfl) (by kernel_rfl) hQ (by kernel_rfl) (fun _ _ => by kernel_rfl) aA ?_
  refine hx_take (i := 1) (oi := _) (v := .pointer (some ⟨qb, 0, none⟩)) rfl rfl hns (by kernel_rfl) (by kernel_rfl) hQ (by kernel_rfl) (fun _ _ => by kernel_rfl) aA ?_
  refine hx_take (i := 2) (oi := _) (v := .pointer (some ⟨qb, 0, none⟩)) rfl rfl hns (by kernel_rfl) (by kernel_rfl) hQ (by kernel_rfl) (fun _ _ => by kernel_rfl) aA ?_
  refine hx_take (i := 3) (oi := _) (v := .pointer (some ⟨qb, 11, none⟩)) rfl rfl hns (by kernel_rfl) (by kernel_rfl) hQ (by kernel_rfl) (fun _ _ => by kernel_rfl) aA ?_
  refine hx_take (i := 5) (oi := _) (v := .agg #[.string ⟨a_s.toArray⟩, .string ⟨a_p.toArray⟩, .int .i64 a_n, .bool a_v0, .string ⟨a_l0.toArray⟩, .bool a_v1, .string ⟨a_l1.toArray⟩, .bool a_v2, .string ⟨a_l2.toArray⟩, .bool a_v3, .string ⟨a_l3.toArray⟩]) rfl rfl hns (by kernel_rfl) (by kernel_rfl) hQ (by kernel_rfl) (fun W hW => ld_at rfl (by kernel_rfl) (by kernel_rfl) (by kernel_rfl) W (hW)) aA ?_
  refine hx_two_vv (i := 4) (j := 6) (.slice aa cs.length ac) (wx71.drew) (.slice (some ⟨wx71.drew.heap.size, 0, none⟩) 1 1) ((wx71.drew.alloc (.cells #[.string ⟨a_s.toArray⟩, .string ⟨a_p.toArray⟩, .int .i64 a_n, .bool a_v0, .string ⟨a_l0.toArray⟩, .bool a_v1, .string ⟨a_l1.toArray⟩, .bool a_v2, .string ⟨a_l2.toArray⟩, .bool a_v3, .string ⟨a_l3.toArray⟩] 33))) rfl rfl (by kernel_rfl) (by kernel_rfl) (by kernel_rfl) rfl (ld_one rfl (by kernel_rfl) (by kernel_rfl) wx71.drew (hc13.cell 11)) aA rfl (by kernel_rfl) (aA.next ((Since.refl wx71.drew).alloc (.cells #[.string ⟨a_s.toArray⟩, .string ⟨a_p.toArray⟩, .int .i64 a_n, .bool a_v0, .string ⟨a_l0.toArray⟩, .bool a_v1, .string ⟨a_l1.toArray⟩, .bool a_v2, .string ⟨a_l2.toArray⟩, .bool a_v3, .string ⟨a_l3.toArray⟩] 33))) ?_ ?_
  · refine hx_make (i := 6) (oi := _) (.slice (some ⟨wx71.drew.heap.size, 0, none⟩) 1 1) (wx71.drew.alloc (.cells #[.string ⟨a_s.toArray⟩, .string ⟨a_p.toArray⟩, .int .i64 a_n, .bool a_v0, .string ⟨a_l0.toArray⟩, .bool a_v1, .string ⟨a_l1.toArray⟩, .bool a_v2, .string ⟨a_l2.toArray⟩, .bool a_v3, .string ⟨a_l3.toArray⟩] 33)) rfl rfl (by kernel_rfl) (by kernel_rfl) (by kernel_rfl) (aA.next ((Since.refl wx71.drew).alloc (.cells #[.string ⟨a_s.toArray⟩, .string ⟨a_p.toArray⟩, .int .i64 a_n, .bool a_v0, .string ⟨a_l0.toArray⟩, .bool a_v1, .string ⟨a_l1.toArray⟩, .bool a_v2, .string ⟨a_l2.toArray⟩, .bool a_v3, .string ⟨a_l3.toArray⟩] 33))) ?_
    replace aA := aA.next ((Since.refl wx71.drew).alloc (.cells #[.string ⟨a_s.toArray⟩, .string ⟨a_p.toArray⟩, .int .i64 a_n, .bool a_v0, .string ⟨a_l0.toArray⟩, .bool a_v1, .string ⟨a_l1.toArray⟩, .bool a_v2, .string ⟨a_l2.toArray⟩, .bool a_v3, .string ⟨a_l3.toArray⟩] 33))
    replace hc13 := hc13.next ((Since.refl wx71.drew).alloc (.cells #[.string ⟨a_s.toArray⟩, .string ⟨a_p.toArray⟩, .int .i64 a_n, .bool a_v0, .string ⟨a_l0.toArray⟩, .bool a_v1, .string ⟨a_l1.toArray⟩, .bool a_v2, .string ⟨a_l2.toArray⟩, .bool a_v3, .string ⟨a_l3.toArray⟩] 33))
    replace hg13 := hg13.next ((Since.refl wx71.drew).alloc (.cells #[.string ⟨a_s.toArray⟩, .string ⟨a_p.toArray⟩, .int .i64 a_n, .bool a_v0, .string ⟨a_l0.toArray⟩, .bool a_v1, .string ⟨a_l1.toArray⟩, .bool a_v2, .string ⟨a_l2.toArray⟩, .bool a_v3, .string ⟨a_l3.toArray⟩] 33))
    replace ho13 := own_since ho13 ((Since.refl wx71.drew).alloc (.cells #[.string ⟨a_s.toArray⟩, .string ⟨a_p.toArray⟩, .int .i64 a_n, .bool a_v0, .string ⟨a_l0.toArray⟩, .bool a_v1, .string ⟨a_l1.toArray⟩, .bool a_v2, .string ⟨a_l2.toArray⟩, .bool a_v3, .string ⟨a_l3.toArray⟩] 33))
    replace hN := hN.trans ((Since.refl wx71.drew).alloc (.cells #[.string ⟨a_s.toArray⟩, .string ⟨a_p.toArray⟩, .int .i64 a_n, .bool a_v0, .string ⟨a_l0.toArray⟩, .bool a_v1, .string ⟨a_l1.toArray⟩, .bool a_v2, .string ⟨a_l2.toArray⟩, .bool a_v3, .string ⟨a_l3.toArray⟩] 33))
    refine hx_append (i := 7) (oi := _) (.tmp 60) (.tmp 62) 48 B 33 i5 (.agg #[.string ByteArray.empty, .string ByteArray.empty, .int .i64 0, .bool false, .string ByteArray.empty, .bool false, .string ByteArray.empty, .bool false, .string ByteArray.empty, .bool false, .string ByteArray.empty]) 11 136 (.slice aa cs.length ac) cs.length D _ (some ⟨wx71.drew.heap.size, 0, none⟩) 1 1 (#[.string ⟨a_s.toArray⟩, .string ⟨a_p.toArray⟩, .int .i64 a_n, .bool a_v0, .string ⟨a_l0.toArray⟩, .bool a_v1, .string ⟨a_l1.toArray⟩, .bool a_v2, .string ⟨a_l2.toArray⟩, .bool a_v3, .string ⟨a_l3.toArray⟩] : Array Value).toList rfl rfl (by kernel_rfl) (by kernel_rfl) rfl Tryz.underlying48 I5.out.1 I5.out.2.1 I5.out.2.2.1 I5.out.2.2.2 rfl (by decide) (by kernel_rfl) ho13 (by kernel_rfl) (reads_new _ #[.string ⟨a_s.toArray⟩, .string ⟨a_p.toArray⟩, .int .i64 a_n, .bool a_v0, .string ⟨a_l0.toArray⟩, .bool a_v1, .string ⟨a_l1.toArray⟩, .bool a_v2, .string ⟨a_l2.toArray⟩, .bool a_v3, .string ⟨a_l3.toArray⟩] _ 11 rfl) (by simp [Value.oneCell']) (by have := HPB.out; unfold maxLen; omega) (by have := HPB.out; omega) (Nat.le_trans hsz hN.size) ?_
    intro v14 w14 hown4 hg4 hat4
    obtain ⟨a4, c4, rfl⟩ := own_slice hown4
    have hX9 := HWD.out _ _ _ _ _ hS12 hgrow hset hN hg4 hown4 hat4
    have hg14 := hg13.grown hg4 HGA.out.2.1
    have hc14 := cel_own hc13 ho13 (by decide) hg4
    have aA14 := aA.far hg4 (fun e => by have := HLT.out.2.2 _ e.symm; omega)
    clear ho13 hg4 hat4 hown4 hN aA hg13 hc13
    have aA := aA14
    refine ⟨aA14, ?_⟩
    refine hx_take (i := 8) (oi := _) (v := .pointer (some ⟨qb, 0, none⟩)) rfl rfl hns (by kernel_rfl) (by kernel_rfl) hQ (by kernel_rfl) (fun _ _ => by kernel_rfl) aA ?_
    refine hx_take (i := 9) (oi := _) (v := .pointer (some ⟨qb, 11, none⟩)) rfl rfl hns (by kernel_rfl) (by kernel_rfl) hQ (by kernel_rfl) (fun _ _ => by kernel_rfl) aA ?_
    have aA15 : At (w14.setCell ⟨qb, 11, none⟩ (.slice a4 (cs.length + 1) c4)) w.heap.size 0 #[.string ⟨a_s.toArray⟩, .string ⟨a_p.toArray⟩, .int .i64 a_n, .bool a_v0, .string ⟨a_l0.toArray⟩, .bool a_v1, .string ⟨a_l1.toArray⟩, .bool a_v2, .string ⟨a_l2.toArray⟩, .bool a_v3, .string ⟨a_l3.toArray⟩] := aA14.far (grown_setCell w14 qb 11 (.slice a4 (cs.length + 1) c4)) (fun e => by injection e with e; have := HLT.out.2.1; omega)
    refine hx_store (i := 10) (oi := _) (w14.setCell ⟨qb, 11, none⟩ (.slice a4 (cs.length + 1) c4)) rfl rfl (by kernel_rfl) (by kernel_rfl) (st_atms rfl (by kernel_rfl) (by kernel_rfl) _ hc14 rfl) aA15 ?_
    refine wpAnyH_done (by kernel_rfl) ?_ _
    clear hns hQ
    simp only [List.set_cons_zero, List.set_cons_succ]
    have hg15 := hg14.grown (grown_setCell w14 qb 11 (.slice a4 (cs.length + 1) c4)) (fun e => HGA.out.2.2 (by injection e with e; exact e.symm))
    have y2 : (w14.setCell ⟨qb, 11, none⟩ (.slice a4 (cs.length + 1) c4)).cell? ⟨g, 2, none⟩ = some (.int .i64 (cn : Int)) := hg15.cell 2
    have f2 : (w14.setCell ⟨qb, 11, none⟩ (.slice a4 (cs.length + 1) c4)).frozen? ⟨g, 2, none⟩ = false := hg15.free 2
    clear hg15 hg14 hc14 aA aA14 aA15
    go_wp2_with fail
    go_ret2
    exact ⟨rfl, hX9⟩
  · replace aA := aA.next ((Since.refl wx71.drew).alloc (.cells #[.string ⟨a_s.toArray⟩, .string ⟨a_p.toArray⟩, .int .i64 a_n, .bool a_v0, .string ⟨a_l0.toArray⟩, .bool a_v1, .string ⟨a_l1.toArray⟩, .bool a_v2, .string ⟨a_l2.toArray⟩, .bool a_v3, .string ⟨a_l3.toArray⟩] 33))
    replace hc13 := hc13.next ((Since.refl wx71.drew).alloc (.cells #[.string ⟨a_s.toArray⟩, .string ⟨a_p.toArray⟩, .int .i64 a_n, .bool a_v0, .string ⟨a_l0.toArray⟩, .bool a_v1, .string ⟨a_l1.toArray⟩, .bool a_v2, .string ⟨a_l2.toArray⟩, .bool a_v3, .string ⟨a_l3.toArray⟩] 33))
    replace hg13 := hg13.next ((Since.refl wx71.drew).alloc (.cells #[.string ⟨a_s.toArray⟩, .string ⟨a_p.toArray⟩, .int .i64 a_n, .bool a_v0, .string ⟨a_l0.toArray⟩, .bool a_v1, .string ⟨a_l1.toArray⟩, .bool a_v2, .string ⟨a_l2.toArray⟩, .bool a_v3, .string ⟨a_l3.toArray⟩] 33))
    replace ho13 := own_since ho13 ((Since.refl wx71.drew).alloc (.cells #[.string ⟨a_s.toArray⟩, .string ⟨a_p.toArray⟩, .int .i64 a_n, .bool a_v0, .string ⟨a_l0.toArray⟩, .bool a_v1, .string ⟨a_l1.toArray⟩, .bool a_v2, .string ⟨a_l2.toArray⟩, .bool a_v3, .string ⟨a_l3.toArray⟩] 33))
    replace hN := hN.trans ((Since.refl wx71.drew).alloc (.cells #[.string ⟨a_s.toArray⟩, .string ⟨a_p.toArray⟩, .int .i64 a_n, .bool a_v0, .string ⟨a_l0.toArray⟩, .bool a_v1, .string ⟨a_l1.toArray⟩, .bool a_v2, .string ⟨a_l2.toArray⟩, .bool a_v3, .string ⟨a_l3.toArray⟩] 33))
    refine hx_make (i := 4) (oi := _) (.slice aa cs.length ac) (wx71.drew.alloc (.cells #[.string ⟨a_s.toArray⟩, .string ⟨a_p.toArray⟩, .int .i64 a_n, .bool a_v0, .string ⟨a_l0.toArray⟩, .bool a_v1, .string ⟨a_l1.toArray⟩, .bool a_v2, .string ⟨a_l2.toArray⟩, .bool a_v3, .string ⟨a_l3.toArray⟩] 33)) rfl rfl (by kernel_rfl) (by kernel_rfl) (ld_one rfl (by kernel_rfl) (by kernel_rfl) (wx71.drew.alloc (.cells #[.string ⟨a_s.toArray⟩, .string ⟨a_p.toArray⟩, .int .i64 a_n, .bool a_v0, .string ⟨a_l0.toArray⟩, .bool a_v1, .string ⟨a_l1.toArray⟩, .bool a_v2, .string ⟨a_l2.toArray⟩, .bool a_v3, .string ⟨a_l3.toArray⟩] 33)) (hc13.cell 11)) aA ?_
    refine hx_append (i := 7) (oi := _) (.tmp 60) (.tmp 62) 48 B 33 i5 (.agg #[.string ByteArray.empty, .string ByteArray.empty, .int .i64 0, .bool false, .string ByteArray.empty, .bool false, .string ByteArray.empty, .bool false, .string ByteArray.empty, .bool false, .string ByteArray.empty]) 11 136 (.slice aa cs.length ac) cs.length D _ (some ⟨wx71.drew.heap.size, 0, none⟩) 1 1 (#[.string ⟨a_s.toArray⟩, .string ⟨a_p.toArray⟩, .int .i64 a_n, .bool a_v0, .string ⟨a_l0.toArray⟩, .bool a_v1, .string ⟨a_l1.toArray⟩, .bool a_v2, .string ⟨a_l2.toArray⟩, .bool a_v3, .string ⟨a_l3.toArray⟩] : Array Value).toList rfl rfl (by kernel_rfl) (by kernel_rfl) rfl Tryz.underlying48 I5.out.1 I5.out.2.1 I5.out.2.2.1 I5.out.2.2.2 rfl (by decide) (by kernel_rfl) ho13 (by kernel_rfl) (reads_new _ #[.string ⟨a_s.toArray⟩, .string ⟨a_p.toArray⟩, .int .i64 a_n, .bool a_v0, .string ⟨a_l0.toArray⟩, .bool a_v1, .string ⟨a_l1.toArray⟩, .bool a_v2, .string ⟨a_l2.toArray⟩, .bool a_v3, .string ⟨a_l3.toArray⟩] _ 11 rfl) (by simp [Value.oneCell']) (by have := HPB.out; unfold maxLen; omega) (by have := HPB.out; omega) (Nat.le_trans hsz hN.size) ?_
    intro v14 w14 hown4 hg4 hat4
    obtain ⟨a4, c4, rfl⟩ := own_slice hown4
    have hX9 := HWD.out _ _ _ _ _ hS12 hgrow hset hN hg4 hown4 hat4
    have hg14 := hg13.grown hg4 HGA.out.2.1
    have hc14 := cel_own hc13 ho13 (by decide) hg4
    have aA14 := aA.far hg4 (fun e => by have := HLT.out.2.2 _ e.symm; omega)
    clear ho13 hg4 hat4 hown4 hN aA hg13 hc13
    have aA := aA14
    refine ⟨aA14, ?_⟩
    refine hx_take (i := 8) (oi := _) (v := .pointer (some ⟨qb, 0, none⟩)) rfl rfl hns (by kernel_rfl) (by kernel_rfl) hQ (by kernel_rfl) (fun _ _ => by kernel_rfl) aA ?_
    refine hx_take (i := 9) (oi := _) (v := .pointer (some ⟨qb, 11, none⟩)) rfl rfl hns (by kernel_rfl) (by kernel_rfl) hQ (by kernel_rfl) (fun _ _ => by kernel_rfl) aA ?_
    have aA15 : At (w14.setCell ⟨qb, 11, none⟩ (.slice a4 (cs.length + 1) c4)) w.heap.size 0 #[.string ⟨a_s.toArray⟩, .string ⟨a_p.toArray⟩, .int .i64 a_n, .bool a_v0, .string ⟨a_l0.toArray⟩, .bool a_v1, .string ⟨a_l1.toArray⟩, .bool a_v2, .string ⟨a_l2.toArray⟩, .bool a_v3, .string ⟨a_l3.toArray⟩] := aA14.far (grown_setCell w14 qb 11 (.slice a4 (cs.length + 1) c4)) (fun e => by injection e with e; have := HLT.out.2.1; omega)
    refine hx_store (i := 10) (oi := _) (w14.setCell ⟨qb, 11, none⟩ (.slice a4 (cs.length + 1) c4)) rfl rfl (by kernel_rfl) (by kernel_rfl) (st_atms rfl (by kernel_rfl) (by kernel_rfl) _ hc14 rfl) aA15 ?_
    refine wpAnyH_done (by kernel_rfl) ?_ _
    clear hns hQ
    simp only [List.set_cons_zero, List.set_cons_succ]
    have hg15 := hg14.grown (grown_setCell w14 qb 11 (.slice a4 (cs.length + 1) c4)) (fun e => HGA.out.2.2 (by injection e with e; exact e.symm))
    have y2 : (w14.setCell ⟨qb, 11, none⟩ (.slice a4 (cs.length + 1) c4)).cell? ⟨g, 2, none⟩ = some (.int .i64 (cn : Int)) := hg15.cell 2
    have f2 : (w14.setCell ⟨qb, 11, none⟩ (.slice a4 (cs.length + 1) c4)).frozen? ⟨g, 2, none⟩ = false := hg15.free 2
    clear hg15 hg14 hc14 aA aA14 aA15
    go_wp2_with fail
    go_ret2
    exact ⟨rfl, hX9⟩
end Go.Proofs.YtbgdljcgbhhfdaaGreatDoor

namespace Go.Proofs.YtbgdljcgbhhfdaaGreatDoor
open Go.RowKit Go.Maps Go.WideMaps
attribute [local go_sem ↓] run_atomEq
attribute [local go_sem] eqA_self

theorem vN_lit (j : Nat) (h : j < 4) : vN j = [86, UInt8.ofNat (48 + j)] := by
  have h1 : Lib.decDigits j = [UInt8.ofNat (48 + j)] := by rw [Lib.decDigits, dif_pos (by omega)]
  unfold vN
  rw [h1]
theorem vN_term (j : Nat) (h : j < 4) : termB (true, vN j) = true := by
  rw [vN_lit j h]
  rcases (show j = 0 ∨ j = 1 ∨ j = 2 ∨ j = 3 by omega) with rfl | rfl | rfl | rfl
  · kernel_rfl
  · kernel_rfl
  · kernel_rfl
  · kernel_rfl
theorem newN_lt {ns : List (List UInt8)} (hl : ns.length ≤ 4) (s : List UInt8) : (posF ns s 0).getD 0 < 4 := by
  cases h : posF ns s 0 with
  | none => simp
  | some j => have := (posF_lt h).2.1; simp; omega
theorem canT_term {ns : List (List UInt8)} (hl : ns.length ≤ 4) {t : Tm} (h : termB t = true) : termB (canT ns t) = true := by
  obtain ⟨v, s⟩ := t
  cases v with
  | false => rw [canT_const rfl]; exact h
  | true => rw [canT_var]; exact vN_term _ (newN_lt hl s)
theorem argsL_drop (ns : List (List UInt8)) (k : Nat) (a : Atm) : (argsL (partC ns k a)).drop k = (argsL a).drop k := by
  obtain ⟨s, p, n, t0, t1, t2, t3⟩ := a
  unfold argsL partC
  match k with
  | 0 => rfl
  | 1 => rfl
  | 2 => rfl
  | 3 => rfl
  | j + 4 => simp
/-- A valid atom's canonical form is valid. -/
theorem check_can {a : Atm} (h : checkA a = 0) : checkA (canA a) = 0 := by
  obtain ⟨n, hn, e1, e2⟩ := valid_len h
  have e3 : (canA a).1 = a.1 := rfl
  have e4 : (canA a).2.1 = a.2.1 := rfl
  have e5 : (canA a).2.2.1 = a.2.2.1 := rfl
  have hn2 : a.2.2.1.toNat = n := by rw [e1]; rfl
  have e6 : (argsL (canA a)).take n = ((argsL a).take n).map (canT (namesA a true)) := by unfold canA; rw [e2, argsL_partC]
  have e7 : (argsL (canA a)).drop n = (argsL a).drop n := by unfold canA; rw [e2, argsL_drop]
  unfold checkA at h ⊢
  rw [e3, e4, e5, hn2, e6, e7]
  rw [hn2] at h
  split at h
  · cases h
  · next h1 =>
    rw [if_neg h1]
    split at h
    · cases h
    · next h2 =>
      rw [if_neg h2]
      split at h
      · cases h
      · next h3 =>
        split at h
        · cases h
        · next h4 =>
          rw [if_neg, if_neg h4]
          simp only [Bool.not_eq_true', Bool.not_eq_false] at h3 ⊢
          rw [List.all_eq_true] at h3 ⊢
          intro t ht
          obtain ⟨u, hu, rfl⟩ := List.mem_map.1 ht
          exact canT_term (namesA_len a) (h3 u hu)
theorem pairs_zip (a b : Atm) : pairsA a b = ((argsL a).take (countA a)).zip ((argsL b).take (countA a)) := by
  unfold pairsA
  rw [List.zip, List.take_zipWith]
/-- What a canonical form matches, the atom matches. -/
theorem match_can {a x : Atm} (ka : checkA a = 0) (kx : checkA x = 0) (h : (extH [] (canA a) x).isSome = true) : (extH [] a x).isSome = true := by
  unfold extH at h ⊢
  have e3 : (canA a).1 = a.1 := rfl
  have e4 : (canA a).2.1 = a.2.1 := rfl
  have e5 : (canA a).2.2.1 = a.2.2.1 := rfl
  rw [e3, e4, e5] at h
  split at h
  · next hc =>
    rw [if_pos hc]
    have hcc : countA a = countA x := by unfold countA; rw [hc.1.2.2]
    have hcc2 : countA (canA a) = countA x := hcc
    have hNP := named_pairs ka kx hcc
    have hNP2 := named_pairs (check_can ka) kx hcc2
    have hG := ground_pairs (a := a) hc.2 hcc
    have hG2 := ground_pairs (a := canA a) hc.2 hcc2
    rw [matchG_F (P := pairsA (canA a) x) (fun q hq => (hNP2 q hq).2), match_uni (fun b hb => by cases hb) hG2] at h
    rw [matchG_F (P := pairsA a x) (fun q hq => (hNP q hq).2), match_uni (fun b hb => by cases hb) hG]
    obtain ⟨m, hm⟩ := Option.isSome_iff_exists.1 h
    obtain ⟨_, _, hs⟩ := uni_sound InvB.nil hNP2 hm
    have hz : pairsA (canA a) x = (pairsA a x).map fun q => (canT (namesA a true) q.1, q.2) := by
      rw [pairs_zip, pairs_zip]
      have e6 : countA (canA a) = countA a := rfl
      rw [e6]
      unfold canA
      rw [argsL_partC, List.zip_map_left]
      rfl
    let σ : Tm → Tm := fun t => if t.1 then termS m (canT (namesA a true) t) else t
    have hσ : ∀ t : Tm, t.1 = false → σ t = t := fun t ht => by show (if t.1 = true then _ else t) = t; rw [ht]; rfl
    obtain ⟨r, hr, _⟩ := uni_most hσ InvB.nil hNP (fun t => by rw [termS_nil]) (fun q hq => by
      have hq2 : (canT (namesA a true) q.1, q.2) ∈ pairsA (canA a) x := by rw [hz]; exact List.mem_map.2 ⟨q, hq, rfl⟩
      have h1 := hs _ hq2
      have h2 := hG q hq
      rw [hσ q.2 h2]
      rw [termS_const m h2] at h1
      show (if q.1.1 = true then termS m (canT (namesA a true) q.1) else q.1) = q.2
      cases hv : q.1.1 with
      | true => rw [if_pos rfl]; exact h1
      | false =>
        rw [canT_const hv, termS_const m hv] at h1
        exact h1)
    have hr2 : uniF (pairsA a x) [] = some r := hr
    rw [hr2]; rfl
  · cases h
theorem tadd_t1 {B g : Nat} {Z : Nat → Prop} {S : List TCall} (i : Nat) (a_s a_p : List UInt8) (a_n : Int) (a_v0 a_v1 a_v2 a_v3 : Bool) (a_l0 a_l1 a_l2 a_l3 : List UInt8) (w : World) (h : Tab w B g Z S) (hi : i < S.length) (hf : FitsN ((a_s, a_p, a_n, (a_v0, a_l0), (a_v1, a_l1), (a_v2, a_l2), (a_v3, a_l3)) : Atm)) (hE : Env w) (hkc : checkA (S[i]).1 = 0) (hx : addOK (S[i]).1 ((a_s, a_p, a_n, (a_v0, a_l0), (a_v1, a_l1), (a_v2, a_l2), (a_v3, a_l3)) : Atm) = false) :
    Calls Tryz.prog 11 #[.pointer (some ⟨g, 0, none⟩), .int .i64 (i : Int), .agg #[.string ⟨a_s.toArray⟩, .string ⟨a_p.toArray⟩, .int .i64 a_n, .bool a_v0, .string ⟨a_l0.toArray⟩, .bool a_v1, .string ⟨a_l1.toArray⟩, .bool a_v2, .string ⟨a_l2.toArray⟩, .bool a_v3, .string ⟨a_l3.toArray⟩]] w fun e w' => e = .returned (.tuple #[.bool false, .int .i64 2]) ∧ Since w w' := by
  obtain ⟨⟨mp, np, cv, R, h1, h2⟩, h3⟩ := h
  cases hm : (extH [] (S[i]).1 ((a_s, a_p, a_n, (a_v0, a_l0), (a_v1, a_l1), (a_v2, a_l2), (a_v3, a_l3)) : Atm)).isSome with
  | false => exact tadd_bad1 i a_s a_p a_n a_v0 a_v1 a_v2 a_v3 a_l0 a_l1 a_l2 a_l3 w h1 hi hf hE hkc hm
  | true =>
    refine tadd_bad2 i a_s a_p a_n a_v0 a_v1 a_v2 a_v3 a_l0 a_l1 a_l2 a_l3 w h1 hi hf hE hkc hm (fun hk => ?_)
    unfold addOK at hx
    rw [hm, hk] at hx
    cases hx
theorem addOK_parts {c a : Atm} (h : addOK c a = true) : checkA a = 0 ∧ (extH [] c a).isSome = true := by
  unfold addOK at h
  rw [Bool.and_eq_true] at h
  exact ⟨by simpa using h.1, h.2⟩
theorem tadd_t2 {B g : Nat} {Z : Nat → Prop} {S : List TCall} (i : Nat) (a_s a_p : List UInt8) (a_n : Int) (a_v0 a_v1 a_v2 a_v3 : Bool) (a_l0 a_l1 a_l2 a_l3 : List UInt8) (w : World) (h : Tab w B g Z S) (hi : i < S.length) (hf : FitsN ((a_s, a_p, a_n, (a_v0, a_l0), (a_v1, a_l1), (a_v2, a_l2), (a_v3, a_l3)) : Atm)) (hE : Env w) (hkc : checkA (S[i]).1 = 0) (hx : addOK (S[i]).1 ((a_s, a_p, a_n, (a_v0, a_l0), (a_v1, a_l1), (a_v2, a_l2), (a_v3, a_l3)) : Atm) = true) (hin : ((a_s, a_p, a_n, (a_v0, a_l0), (a_v1, a_l1), (a_v2, a_l2), (a_v3, a_l3)) : Atm) ∈ (S[i]).2.1) :
    Calls Tryz.prog 11 #[.pointer (some ⟨g, 0, none⟩), .int .i64 (i : Int), .agg #[.string ⟨a_s.toArray⟩, .string ⟨a_p.toArray⟩, .int .i64 a_n, .bool a_v0, .string ⟨a_l0.toArray⟩, .bool a_v1, .string ⟨a_l1.toArray⟩, .bool a_v2, .string ⟨a_l2.toArray⟩, .bool a_v3, .string ⟨a_l3.toArray⟩]] w fun e w' => e = .returned (.tuple #[.bool false, .int .i64 0]) ∧ Since w w' := by
  obtain ⟨⟨mp, np, cv, R, h1, h2⟩, h3⟩ := h
  obtain ⟨hk, hm⟩ := addOK_parts hx
  cases hp : posF (S[i]).2.1 ((a_s, a_p, a_n, (a_v0, a_l0), (a_v1, a_l1), (a_v2, a_l2), (a_v3, a_l3)) : Atm) 0 with
  | none => exact absurd hin (posF_none.1 hp)
  | some j => exact tadd_old i a_s a_p a_n a_v0 a_v1 a_v2 a_v3 a_l0 a_l1 a_l2 a_l3 w h1 hi hf hE hkc hm hk j hp
theorem tadd_t3 {B g : Nat} {Z : Nat → Prop} {S : List TCall} (i : Nat) (a_s a_p : List UInt8) (a_n : Int) (a_v0 a_v1 a_v2 a_v3 : Bool) (a_l0 a_l1 a_l2 a_l3 : List UInt8) (w : World) (h : Tab w B g Z S) (hi : i < S.length) (hf : FitsN ((a_s, a_p, a_n, (a_v0, a_l0), (a_v1, a_l1), (a_v2, a_l2), (a_v3, a_l3)) : Atm)) (hE : Env w) (hkc : checkA (S[i]).1 = 0) (hx : addOK (S[i]).1 ((a_s, a_p, a_n, (a_v0, a_l0), (a_v1, a_l1), (a_v2, a_l2), (a_v3, a_l3)) : Atm) = true) (hin : ¬ ((a_s, a_p, a_n, (a_v0, a_l0), (a_v1, a_l1), (a_v2, a_l2), (a_v3, a_l3)) : Atm) ∈ (S[i]).2.1) (hl : (S[i]).2.1.length < 100000) (hcn : cntS S < 1000000) :
    Calls Tryz.prog 11 #[.pointer (some ⟨g, 0, none⟩), .int .i64 (i : Int), .agg #[.string ⟨a_s.toArray⟩, .string ⟨a_p.toArray⟩, .int .i64 a_n, .bool a_v0, .string ⟨a_l0.toArray⟩, .bool a_v1, .string ⟨a_l1.toArray⟩, .bool a_v2, .string ⟨a_l2.toArray⟩, .bool a_v3, .string ⟨a_l3.toArray⟩]] w fun e w' => e = .returned (.tuple #[.bool true, .int .i64 0]) ∧ TOp Z B g w w' (S.set i (addC S[i] ((a_s, a_p, a_n, (a_v0, a_l0), (a_v1, a_l1), (a_v2, a_l2), (a_v3, a_l3)) : Atm))) := by
  have hB := h.le
  obtain ⟨⟨mp, np, cv, R, h1, h2⟩, h3⟩ := h
  obtain ⟨hk, hm⟩ := addOK_parts hx
  refine (tadd_new i a_s a_p a_n a_v0 a_v1 a_v2 a_v3 a_l0 a_l1 a_l2 a_l3 w h1 hi hf hE hkc hm hk (posF_none.2 hin) hl hcn hB).mono ?_
  rintro e w' ⟨rfl, R', k1, k2, k3⟩
  exact ⟨rfl, TOp.of h2 h3 hB k1 k3 k2⟩
theorem tadd_tn {B g : Nat} {Z : Nat → Prop} {S : List TCall} (i : Int) (a_s a_p : List UInt8) (a_n : Int) (a_v0 a_v1 a_v2 a_v3 : Bool) (a_l0 a_l1 a_l2 a_l3 : List UInt8) (w : World) (h : Tab w B g Z S) (hi : i < 0 ∨ (S.length : Int) ≤ i) :
    Calls Tryz.prog 11 #[.pointer (some ⟨g, 0, none⟩), .int .i64 i, .agg #[.string ⟨a_s.toArray⟩, .string ⟨a_p.toArray⟩, .int .i64 a_n, .bool a_v0, .string ⟨a_l0.toArray⟩, .bool a_v1, .string ⟨a_l1.toArray⟩, .bool a_v2, .string ⟨a_l2.toArray⟩, .bool a_v3, .string ⟨a_l3.toArray⟩]] w fun e w' => e = .returned (.tuple #[.bool false, .int .i64 13]) ∧ Since w w' := by
  obtain ⟨⟨mp, np, cv, R, h1, h2⟩, h3⟩ := h
  exact tadd_no i a_s a_p a_n a_v0 a_v1 a_v2 a_v3 a_l0 a_l1 a_l2 a_l3 w h1 hi
set_option maxHeartbeats 1000000 in
set_option maxRecDepth 100000 in
theorem neqg_sameA {o : Oper} {x y : Operand} {ev : Operand → Value} (a_s a_p : List UInt8) (a_n : Int) (a_v0 a_v1 a_v2 a_v3 : Bool) (a_l0 a_l1 a_l2 a_l3 : List UInt8) (ho : o.op = Op.binOp .neq 33 x y 33) (hx : ev x = .agg #[.string ⟨a_s.toArray⟩, .string ⟨a_p.toArray⟩, .int .i64 a_n, .bool a_v0, .string ⟨a_l0.toArray⟩, .bool a_v1, .string ⟨a_l1.toArray⟩, .bool a_v2, .string ⟨a_l2.toArray⟩, .bool a_v3, .string ⟨a_l3.toArray⟩]) (hy : ev y = .agg #[.string ⟨a_s.toArray⟩, .string ⟨a_p.toArray⟩, .int .i64 a_n, .bool a_v0, .string ⟨a_l0.toArray⟩, .bool a_v1, .string ⟨a_l1.toArray⟩, .bool a_v2, .string ⟨a_l2.toArray⟩, .bool a_v3, .string ⟨a_l3.toArray⟩]) (W : World) :
    (execOp ev o).run Tryz.prog W = .ok (.value (.bool false)) W := by
  simp only [execOp, ho]
  go_simp
set_option maxHeartbeats 4000000 in
set_option maxRecDepth 100000 in
theorem same_atms (v1 v2 : Value) (L : List Atm) (w : World) (h1 : ARow w v1 L) (h2 : ARow w v2 L) (hm : L.length ≤ 1000000) :
    Calls Tryz.prog 25 #[v1, v2] w fun e w' => e = .returned (.bool true) ∧ Since w w' := by
  obtain ⟨a1, c1, rfl⟩ := h1.slice
  obtain ⟨a2, c2, rfl⟩ := h2.slice
  have H1 := Lib.hid h1
  have H2 := Lib.hid h2
  clear h1 h2
  go_enter Tryz.func25, Tryz.ntmps25
  go_wp2_with fail
  go_loopw [5] (fun i wr => ∃ k : Nat, k ≤ L.length ∧ i = .int .i64 (k : Int) ∧ Since w wr) (fun i _ => L.length - (intOf i).toNat)
  case atStart => exact ⟨0, Nat.zero_le _, rfl, Since.refl _⟩
  case round =>
  rename World => w1
  obtain ⟨k, hk, rfl, hS⟩ := hrel
  by_cases hlt : k < L.length
  · have hlt2 : (k : Int) < (L.length : Int) := by omega
    have hlt0 : (0 : Int) ≤ (k : Int) := by omega
    obtain ⟨b, ob, e1, hc, hat⟩ := H1.out.get (by omega)
    obtain ⟨d, od, e2, hd, hau⟩ := H2.out.get (by omega)
    have d1 := hat k hlt
    have d2 := hau k hlt
    obtain ⟨⟨x_s, x_p, x_n, ⟨x_v0, x_l0⟩, ⟨x_v1, x_l1⟩, ⟨x_v2, x_l2⟩, ⟨x_v3, x_l3⟩⟩, hx⟩ : ∃ x, Hid (x = L[k]) := ⟨L[k], rfl⟩
    rw [← hx.out] at d1 d2
    have xA0 : At w b (ob + k * 11) #[.string ⟨x_s.toArray⟩, .string ⟨x_p.toArray⟩, .int .i64 x_n, .bool x_v0, .string ⟨x_l0.toArray⟩, .bool x_v1, .string ⟨x_l1.toArray⟩, .bool x_v2, .string ⟨x_l2.toArray⟩, .bool x_v3, .string ⟨x_l3.toArray⟩] := d1
    have yA0 : At w d (od + k * 11) #[.string ⟨x_s.toArray⟩, .string ⟨x_p.toArray⟩, .int .i64 x_n, .bool x_v0, .string ⟨x_l0.toArray⟩, .bool x_v1, .string ⟨x_l1.toArray⟩, .bool x_v2, .string ⟨x_l2.toArray⟩, .bool x_v3, .string ⟨x_l3.toArray⟩] := d2
    have xA := xA0.next hS
    have yA := yA0.next hS
    subst e1 e2
    clear hat hau d1 d2 xA0 yA0
    go_wp2_with fail
    replace hS := hS.trans ((Since.refl w1).drew)
    replace xA := xA.next ((Since.refl w1).drew)
    replace yA := yA.next ((Since.refl w1).drew)
    refine hx_begin (S := fun W => (Since w W) ∧ (At W b (ob + k * 11) #[.string ⟨x_s.toArray⟩, .string ⟨x_p.toArray⟩, .int .i64 x_n, .bool x_v0, .string ⟨x_l0.toArray⟩, .bool x_v1, .string ⟨x_l1.toArray⟩, .bool x_v2, .string ⟨x_l2.toArray⟩, .bool x_v3, .string ⟨x_l3.toArray⟩]) ∧ (At W d (od + k * 11) #[.string ⟨x_s.toArray⟩, .string ⟨x_p.toArray⟩, .int .i64 x_n, .bool x_v0, .string ⟨x_l0.toArray⟩, .bool x_v1, .string ⟨x_l1.toArray⟩, .bool x_v2, .string ⟨x_l2.toArray⟩, .bool x_v3, .string ⟨x_l3.toArray⟩])) (by kernel_rfl) ⟨hS, xA, yA⟩ (by kernel_rfl) (fun _ _ _ _ _ h => h) (fun hns hQ => ?_)
    refine hx_take (i := 0) (oi := _) (v := .slice (some ⟨b, ob, none⟩) L.length c1) rfl rfl hns (by kernel_rfl) (by kernel_rfl) hQ (by kernel_rfl) (fun _ _ => by kernel_rfl) ⟨hS, xA, yA⟩ ?_
    refine hx_take (i := 1) (oi := _) (v := .int .i64 (k : Int)) rfl rfl hns (by kernel_rfl) (by kernel_rfl) hQ (by kernel_rfl) (fun _ _ => by kernel_rfl) ⟨hS, xA, yA⟩ ?_
    refine hx_take (i := 2) (oi := _) (v := .pointer (some ⟨b, ob + k * 11, none⟩)) rfl rfl hns (by kernel_rfl) (by kernel_rfl) hQ (by kernel_rfl) (fun W _ => ix_sl (n := L.length) (c := c1) (K := 11) rfl (by kernel_rfl) (by kernel_rfl) (by kernel_rfl) rfl hlt W) ⟨hS, xA, yA⟩ ?_
    refine hx_take (i := 3) (oi := _) (v := .agg #[.string ⟨x_s.toArray⟩, .string ⟨x_p.toArray⟩, .int .i64 x_n, .bool x_v0, .string ⟨x_l0.toArray⟩, .bool x_v1, .string ⟨x_l1.toArray⟩, .bool x_v2, .string ⟨x_l2.toArray⟩, .bool x_v3, .string ⟨x_l3.toArray⟩]) rfl rfl hns (by kernel_rfl) (by kernel_rfl) hQ (by kernel_rfl) (fun W hW => ld_at rfl (by kernel_rfl) (by kernel_rfl) (by kernel_rfl) W (hW.2.1)) ⟨hS, xA, yA⟩ ?_
    refine hx_take (i := 4) (oi := _) (v := .slice (some ⟨d, od, none⟩) L.length c2) rfl rfl hns (by kernel_rfl) (by kernel_rfl) hQ (by kernel_rfl) (fun _ _ => by kernel_rfl) ⟨hS, xA, yA⟩ ?_
    refine hx_take (i := 5) (oi := _) (v := .int .i64 (k : Int)) rfl rfl hns (by kernel_rfl) (by kernel_rfl) hQ (by kernel_rfl) (fun _ _ => by kernel_rfl) ⟨hS, xA, yA⟩ ?_
    refine hx_take (i := 6) (oi := _) (v := .pointer (some ⟨d, od + k * 11, none⟩)) rfl rfl hns (by kernel_rfl) (by kernel_rfl) hQ (by kernel_rfl) (fun W _ => ix_sl (n := L.length) (c := c2) (K := 11) rfl (by kernel_rfl) (by kernel_rfl) (by kernel_rfl) rfl hlt W) ⟨hS, xA, yA⟩ ?_
    refine hx_take (i := 7) (oi := _) (v := .agg #[.string ⟨x_s.toArray⟩, .string ⟨x_p.toArray⟩, .int .i64 x_n, .bool x_v0, .string ⟨x_l0.toArray⟩, .bool x_v1, .string ⟨x_l1.toArray⟩, .bool x_v2, .string ⟨x_l2.toArray⟩, .bool x_v3, .string ⟨x_l3.toArray⟩]) rfl rfl hns (by kernel_rfl) (by kernel_rfl) hQ (by kernel_rfl) (fun W hW => ld_at rfl (by kernel_rfl) (by kernel_rfl) (by kernel_rfl) W (hW.2.2)) ⟨hS, xA, yA⟩ ?_
    refine hx_take (i := 8) (oi := _) (v := .bool false) rfl rfl hns (by kernel_rfl) (by kernel_rfl) hQ (by kernel_rfl) (fun W _ => neqg_sameA x_s x_p x_n x_v0 x_v1 x_v2 x_v3 x_l0 x_l1 x_l2 x_l3 rfl (by kernel_rfl) (by kernel_rfl) W) ⟨hS, xA, yA⟩ ?_
    refine wpAnyH_done (by kernel_rfl) ?_ _
    clear hns hQ
    simp only [List.set_cons_zero, List.set_cons_succ]
    clear xA yA
    go_wp2_with fail
    go_roundw
    case rel => exact ⟨k + 1, by omega, by go_num, hS⟩
    case measure => simp [intOf]; omega
  have hlt2 : ¬ (k : Int) < (L.length : Int) := by omega
  go_wp2_with fail
  go_ret
  exact ⟨rfl, hS⟩
end Go.Proofs.YtbgdljcgbhhfdaaGreatDoor
