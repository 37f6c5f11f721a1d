/- Same[int]; a row of the call's own of rows of numbers (want). TableOnce: the walk. -/
import Derived.Test.YtbgdljcgbhhfdaaGreatDoorTabK
import Derived.Test.YtbgdljcgbhhfdaaGreatDoorPick
namespace Go.Proofs.YtbgdljcgbhhfdaaGreatDoor
open Go.RowKit Go.Maps Go.WideMaps

theorem drop_eqI {α : Type} [DecidableEq α] {L1 L2 : List α} {k : Nat} (h1 : k < L1.length) (h2 : k < L2.length) : decide (L1.drop k = L2.drop k) = (decide (L1[k] = L2[k]) && decide (L1.drop (k + 1) = L2.drop (k + 1))) := by
  rw [List.drop_eq_getElem_cons h1, List.drop_eq_getElem_cons h2, Bool.eq_iff_iff, Bool.and_eq_true, decide_eq_true_eq, decide_eq_true_eq, decide_eq_true_eq, List.cons.injEq]
set_option maxHeartbeats 400000 in
theorem ksame_int (v1 v2 : Value) (L1 L2 : List Int) (w : World) (h1 : IRow w v1 L1) (h2 : IRow w v2 L2) (hm1 : L1.length ≤ 1000000) (hm2 : L2.length ≤ 1000000) :
    Calls Tryz.prog 22 #[v1, v2] w fun e w' => e = .returned (.bool (decide (L1 = L2))) ∧ ∃ m, w' = w.drewN m := by
  obtain ⟨a1, c1, rfl⟩ := h1.slice
  obtain ⟨a2, c2, rfl⟩ := h2.slice
  by_cases hl : L1.length = L2.length
  · have hq : ((L1.length : Int) != (L2.length : Int)) = false := by simp [hl]
    have HL := Lib.hid hl
    have H1 := Lib.hid h1
    have H2 := Lib.hid h2
    clear hl h1 h2
    go_enter Tryz.func22, Tryz.ntmps22
    go_wp2
    go_loopw [5] (fun i wr => ∃ k : Nat, k ≤ L1.length ∧ i = .int .i64 k ∧ Hid (decide (L1 = L2) = decide (L1.drop k = L2.drop k)) ∧ ∃ m, wr = w.drewN m) (fun i _ => L1.length - (intOf i).toNat)
    case atStart => exact ⟨0, Nat.zero_le _, rfl, rfl, 0, rfl⟩
    case round =>
      obtain ⟨k, hk, rfl, hres, m, rfl⟩ := hrel
      by_cases hlt : k < L1.length
      · have hlt2 : k < L2.length := by rw [← HL.out]; exact hlt
        obtain ⟨b1, o1, rfl, _, hc1⟩ := H1.out.get (by omega)
        obtain ⟨b2, o2, rfl, _, hc2⟩ := H2.out.get (by omega)
        have d1 := hc1 k hlt
        have d2 := hc2 k hlt2
        simp only [IntAt, Nat.mul_one] at d1 d2
        have hst := drop_eqI hlt hlt2
        have HST := Lib.hid hst
        clear hst hc1 hc2
        have hk2 : (k : Int) < (L2.length : Int) := by omega
        generalize L1[k] = x at *
        generalize L2[k] = y at *
        cases he : (x == y)
        · go_wp2
          go_quiet (fail)
          go_wp2
          go_ret
          refine ⟨ret_bool ?_, ?_⟩
          · have hn : x ≠ y := by simpa using he
            rw [hres.out, HST.out, decide_eq_false hn, Bool.false_and]
          · first | exact ⟨_, rfl⟩ | exact ⟨_, by rw [World.drewN_drewN]⟩
        · have hx : x = y := by simpa using he
          subst hx
          clear he
          go_wp2
          go_quiet (fail)
          go_wp2
          go_roundw
          case rel =>
            refine ⟨k + 1, by omega, by go_num, ?_, ?_⟩
            · show _ = _
              rw [hres.out, HST.out]; simp
            · first | exact ⟨_, rfl⟩ | exact ⟨_, by rw [World.drewN_drewN]⟩
          case measure => simp [intOf]; omega
      · go_wp2
        go_ret
        refine ⟨ret_bool ?_, m, rfl⟩
        rw [hres.out, List.drop_eq_nil_of_le (by omega), List.drop_eq_nil_of_le (by rw [← HL.out]; omega)]
        simp
  · have hq : ((L1.length : Int) != (L2.length : Int)) = true := by simp; omega
    clear h1 h2
    go_enter Tryz.func22, Tryz.ntmps22
    go_wp2
    go_ret
    exact ⟨ret_bool (by rw [eq_comm]; exact decide_eq_false (fun e => hl (by rw [e]))), 0, rfl⟩
theorem own_set1 {w : World} {B : Nat} {e : TypeId} {v : Value} {n : Nat} {xs : List Value} (h : w.ownsRow B e 1 v n xs) {ob i : Nat} (hv : v.ownBlock = some ob) (_hi : i < n) (u : Value) : (w.setCell ⟨ob, i, none⟩ u).ownsRow B e 1 v n (xs.set i u) := by
  refine ⟨by rw [List.length_set]; exact h.1, ?_⟩
  rcases h.2 with ⟨rfl, _⟩ | ⟨g, cap, cur, rfl, hb, hg, h1, h2, h3, h4⟩
  · cases hv
  · obtain rfl : g = ob := by injection hv
    refine .inr ⟨g, cap, cur.setIfInBounds i u, rfl, hb, (show Cel w g cur e from hg).set rfl, h1, h2, by rw [Array.size_setIfInBounds]; exact h3, ?_⟩
    rw [Array.toList_setIfInBounds, List.take_set, h4]
abbrev Wnt := List (List Int × Value)
def nilR : Value := .slice none 0 0
/-- want: a row of rows of numbers. -/
def WantAt (W : World) (B : Nat) (v : Value) (L : Wnt) : Prop := Nest W B 54 1 (fun (_ : List Int) u => [u]) 3 1 (fun l => l.length) (fun l => l.flatMap intV1) v L
theorem flat_rep : ∀ n : Nat, (List.replicate n (([], nilR) : List Int × Value)).flatMap (fun p => [p.2]) = List.replicate n nilR
  | 0 => rfl
  | k + 1 => by rw [List.replicate_succ, List.flatMap_cons, flat_rep k]; rfl
theorem want_nil {W : World} {B : Nat} {v : Value} {n : Nat} (h : W.ownsRow B 54 1 v n (List.replicate n nilR)) : WantAt W B v (List.replicate n ([], nilR)) := by
  refine ⟨?_, fun p hp => ?_, ?_⟩
  · have e := flat_rep n
    rw [List.length_replicate, e]
    exact h
  · have := List.eq_of_mem_replicate hp
    subst this
    exact World.ownsRow_nil _ _ _ _
  · rw [List.pairwise_replicate]
    exact .inr (.inl rfl)
theorem WantAt.next {W W' : World} {B : Nat} {v : Value} {L : Wnt} (h : WantAt W B v L) (hs : Since W W') : WantAt W' B v L := Nest.next h hs
/-- Where want lies, and what its cell i holds. -/
theorem WantAt.at {W : World} {B : Nat} {v : Value} {L : Wnt} (h : WantAt W B v L) {i : Nat} (hi : i < L.length) : ∃ ob cap cur, v = .slice (some ⟨ob, 0, none⟩) L.length cap ∧ B ≤ ob ∧ Cel W ob cur 54 ∧ cur[i]? = some (L[i]).2 := by
  obtain ⟨h1, h2⟩ := Nest.row h
  rcases h2 with ⟨_, h3⟩ | ⟨g, cap, cur, hv, hb, hg, h3, h4, h5, h6⟩
  · omega
  · refine ⟨g, cap, cur, hv, hb, hg, ?_⟩
    have h7 := congrArg (fun l => l[i]?) h6
    simp only [Nat.mul_one] at h7
    rw [List.getElem?_take, if_pos hi, Array.getElem?_toList] at h7
    rw [h7]
    have := flat_at (f := fun p : List Int × Value => [p.2]) (K := 1) (fun _ => rfl) L i hi 0 (by omega)
    rw [Nat.mul_one, Nat.add_zero] at this
    exact this
theorem WantAt.inner {W : World} {B : Nat} {v : Value} {L : Wnt} (h : WantAt W B v L) {i : Nat} (hi : i < L.length) : W.ownsRow B 3 1 (L[i]).2 (L[i]).1.length ((L[i]).1.flatMap intV1) := Nest.ins h _ (List.getElem_mem hi)
theorem flat_set {L : Wnt} {i : Nat} {q : List Int × Value} : (L.set i q).flatMap (fun p => [p.2]) = (L.flatMap fun p => [p.2]).set i q.2 := by
  induction L generalizing i with
  | nil => rfl
  | cons p r ih =>
    cases i with
    | zero => rfl
    | succ k => rw [List.set_cons_succ, List.flatMap_cons, List.flatMap_cons, ih]; rfl
/-- One row of want grown and put back. -/
theorem WantAt.put {W Wa W3 : World} {B : Nat} {v : Value} {L : Wnt} (h : WantAt W B v L) (hs : Since W Wa) {i : Nat} (hi : i < L.length) {v' : Value} {x : Int} {ob : Nat} (hv : v.ownBlock = some ob) (hg : Wa.grownBy W3 (L[i]).2.ownBlock)
    (hown : W3.ownsRow B 3 1 v' ((L[i]).1.length + 1) ((L[i]).1.flatMap intV1 ++ [.int .i64 x])) (hat : v'.ownBlock = (L[i]).2.ownBlock ∨ v'.ownBlock = some Wa.heap.size) : WantAt (W3.setCell ⟨ob, i, none⟩ v') B v (L.set i ((L[i]).1 ++ [x], v')) := by
  have hA := WantAt.next h hs
  have hIn := hA.inner hi
  have hrow3 : W3.ownsRow B 54 1 v L.length (L.flatMap fun p => [p.2]) := (Nest.row hA).kept hg (own_kind_apart (Nest.row hA) hIn (by decide))
  have hcelO : ∃ cur, Cel W3 ob cur 54 := by
    rcases hrow3.2 with ⟨rfl, _⟩ | ⟨g, cap, cur, rfl, _, h2, _⟩
    · cases hv
    · obtain rfl : g = ob := by injection hv
      exact ⟨cur, h2⟩
  obtain ⟨cur, hC⟩ := hcelO
  have hap : ∀ j (hj : j < L.length), j ≠ i → apartV (L[j]).2 (L[i]).2 := by
    intro j hj hne
    rcases Nat.lt_or_gt_of_ne hne with hl | hl
    · exact List.pairwise_iff_getElem.1 (Nest.apart h) j i hj hi hl
    · exact (List.pairwise_iff_getElem.1 (Nest.apart h) i j hi hj hl).symm
  have hap2 : ∀ j (hj : j < L.length), j ≠ i → apartV (L[j]).2 v' := by
    intro j hj hne
    rcases hat with e | e
    · have := hap j hj hne
      unfold apartV at this ⊢
      rw [e]; exact this
    · unfold apartV
      cases hb : (L[j]).2.ownBlock with
      | none => exact .inl rfl
      | some b =>
        refine .inr fun e2 => ?_
        rw [e] at e2
        injection e2 with e2
        have := ((hA.inner hj).lt b hb).2
        omega
  refine ⟨?_, fun p hp => ?_, ?_⟩
  · rw [List.length_set, flat_set]
    exact own_set1 hrow3 hv hi v'
  · obtain ⟨j, hj, rfl⟩ := List.getElem_of_mem hp
    rw [List.length_set] at hj
    rw [List.getElem_set]
    by_cases e : i = j
    · rw [if_pos e]
      show World.ownsRow _ B 3 1 v' ((L[i]).1 ++ [x]).length (((L[i]).1 ++ [x]).flatMap intV1)
      rw [List.length_append, List.flatMap_append]
      exact own_setCell hown hC (by decide)
    · rw [if_neg e]
      exact own_setCell ((hA.inner hj).kept hg (hap j hj (fun e2 => e e2.symm))) hC (by decide)
  · rw [List.pairwise_iff_getElem]
    intro a b ha hb hab
    rw [List.length_set] at ha hb
    rw [List.getElem_set, List.getElem_set]
    by_cases h1 : i = a
    · rw [if_pos h1, if_neg (by omega)]
      exact (hap2 b hb (by omega)).symm
    · rw [if_neg h1]
      by_cases h2 : i = b
      · rw [if_pos h2]; exact hap2 a ha (fun e => h1 e.symm)
      · rw [if_neg h2]; exact List.pairwise_iff_getElem.1 (Nest.apart h) a b ha hb hab
/-- Blocks of want, none of which is among Z. -/
def WantOff (Z : Nat → Prop) (v : Value) (L : Wnt) : Prop := (∀ b, v.ownBlock = some b → ¬ Z b) ∧ ∀ p ∈ L, ∀ b, p.2.ownBlock = some b → ¬ Z b
theorem WantAt.keep {Z : Nat → Prop} {W W' : World} {B : Nat} {v : Value} {L : Wnt} (h : WantAt W B v L) (hk : Keep Z W W') (hz : WantOff Z v L) : WantAt W' B v L :=
  ⟨hk.own (Nest.row h) hz.1, fun p hp => hk.own (Nest.ins h p hp) (hz.2 p hp), Nest.apart h⟩
theorem WantOff.next {Z Z' : Nat → Prop} {W : World} {B : Nat} {v : Value} {L : Wnt} (h : WantAt W B v L) (hz : WantOff Z v L) (hzz : ∀ b, b < W.heap.size → ¬ Z b → ¬ Z' b) : WantOff Z' v L :=
  ⟨fun b hb => hzz b ((Nest.row h).lt b hb).2 (hz.1 b hb), fun p hp b hb => hzz b ((Nest.ins h p hp).lt b hb).2 (hz.2 p hp b hb)⟩
end Go.Proofs.YtbgdljcgbhhfdaaGreatDoor

namespace Go.Proofs.YtbgdljcgbhhfdaaGreatDoor
open Go.RowKit Go.Maps Go.WideMaps
attribute [local go_sem ↓] run_atomEq
attribute [local go_sem] eqA_self

set_option maxHeartbeats 1000000 in
set_option maxRecDepth 100000 in
theorem eqg_atom {o : Oper} {x y : Operand} {ev : Operand → Value} (a_s a_p : List UInt8) (a_n : Int) (a_v0 a_v1 a_v2 a_v3 : Bool) (a_l0 a_l1 a_l2 a_l3 : List UInt8) (b_s b_p : List UInt8) (b_n : Int) (b_v0 b_v1 b_v2 b_v3 : Bool) (b_l0 b_l1 b_l2 b_l3 : List UInt8) (ho : o.op = Op.binOp .eql 33 x y 33) (hx : ev x = .agg #[.string ⟨a_s.toArray⟩, .string ⟨a_p.toArray⟩, .int .i64 a_n, .bool a_v0, .string ⟨a_l0.toArray⟩, .bool a_v1, .string ⟨a_l1.toArray⟩, .bool a_v2, .string ⟨a_l2.toArray⟩, .bool a_v3, .string ⟨a_l3.toArray⟩]) (hy : ev y = .agg #[.string ⟨b_s.toArray⟩, .string ⟨b_p.toArray⟩, .int .i64 b_n, .bool b_v0, .string ⟨b_l0.toArray⟩, .bool b_v1, .string ⟨b_l1.toArray⟩, .bool b_v2, .string ⟨b_l2.toArray⟩, .bool b_v3, .string ⟨b_l3.toArray⟩]) (W : World) :
    (execOp ev o).run Tryz.prog W = .ok (.value (.bool (eqA ((a_s, a_p, a_n, (a_v0, a_l0), (a_v1, a_l1), (a_v2, a_l2), (a_v3, a_l3)) : Atm) ((b_s, b_p, b_n, (b_v0, b_l0), (b_v1, b_l1), (b_v2, b_l2), (b_v3, b_l3)) : Atm)))) W := by
  simp only [execOp, ho]
  go_simp
theorem bin_valT {o : Oper} {ev : Operand → Value} {P : Program} {W : World} {u v : Bool} (h : (execOp ev o).run P W = .ok (.value (.bool u)) W) (e : u = v) : (execOp ev o).run P W = .ok (.value (.bool v)) W := e ▸ h
/-- The place that the law finds among the first m. -/
def atF (P : List Atm) (c : Atm) (m : Nat) : Nat := (posF (P.take m) c 0).getD P.length
theorem atF_yes {P : List Atm} {c : Atm} {m : Nat} (hn : P.Nodup) (hm : m < P.length) (h : P[m] = c) : atF P c (m + 1) = m := by
  unfold atF
  rw [List.take_succ_eq_append_getElem hm, posF_snoc]
  have h0 : posF (P.take m) c 0 = none := by
    rw [posF_none]
    intro hc
    obtain ⟨i, hi, e⟩ := List.getElem_of_mem hc
    rw [List.length_take] at hi
    rw [List.getElem_take] at e
    exact List.pairwise_iff_getElem.1 hn i m (by omega) hm (by omega) (e.trans h.symm)
  rw [h0, if_pos h, List.length_take]
  simp only [Option.getD_some]
  omega
theorem atF_no {P : List Atm} {c : Atm} {m : Nat} (hm : m < P.length) (h : ¬ P[m] = c) : atF P c (m + 1) = atF P c m := by
  unfold atF
  rw [List.take_succ_eq_append_getElem hm, posF_snoc, if_neg h]
  cases posF (P.take m) c 0 <;> rfl
theorem atF_all {P : List Atm} {c : Atm} : atF P c P.length = (posF P c 0).getD P.length := by
  unfold atF
  rw [List.take_of_length_le (Nat.le_refl _)]
theorem own_push11 {W : World} {B : Nat} {v : Value} {P : List Atm} {c : Atm} {xs : List Value} (h : W.ownsRow B 33 11 v (P.length + 1) (P.flatMap atmL ++ xs)) (hx : xs = (atmC c).toList) : W.ownsRow B 33 11 v (P ++ [c]).length ((P ++ [c]).flatMap atmL) := by
  rw [List.length_append, List.flatMap_append]
  subst hx
  simpa [atmL] using h
theorem cells_row1 (w : World) (cs : Array Value) (T : TypeId) : ∀ j u, cs.toList[j]? = some u → (w.alloc (.cells cs T)).cell? ((⟨w.heap.size, 0, none⟩ : Addr).add j) = some u := by
  intro j u hu
  have hC : Cel (w.alloc (.cells cs T)) w.heap.size cs T := heap_alloc_new w _
  rw [add_form, Nat.zero_add, hC.cell j, ← Array.getElem?_toList]
  exact hu
theorem once_tail {w w8 w9 : World} {B g cb : Nat} {Z : Nat → Prop} {S' : List TCall} {u v : Value} {P : List Atm} {c : Atm} {o : Obj} {xs : List Value} (hT : Tab w8 B g Z S') (hS : Since w w8) (hrow : w8.ownsRow w.heap.size 33 11 u P.length (P.flatMap atmL)) (hC : Cel w8 cb (atmC c) 33) (hzz : ∀ b, u.ownBlock = some b → ¬ Z b) (hcb : ∀ b, u.ownBlock = some b → b ≠ cb)
    (hg : (w8.alloc o).grownBy w9 u.ownBlock) (hown : w9.ownsRow w.heap.size 33 11 v (P.length + 1) (P.flatMap atmL ++ xs)) (hx : xs = (atmC c).toList) (hat : v.ownBlock = u.ownBlock ∨ v.ownBlock = some (w8.alloc o).heap.size) :
    Tab w9 B g Z S' ∧ Since w w9 ∧ w9.ownsRow w.heap.size 33 11 v (P ++ [c]).length ((P ++ [c]).flatMap atmL) ∧ Cel w9 cb (atmC c) 33 ∧ ∀ b, v.ownBlock = some b → ¬ Z b := by
  have ha : Since w8 (w8.alloc o) := (Since.refl _).alloc o
  refine ⟨(hT.next ha).far hg hzz, Below.grown (hS.trans ha) hg (hS.trans ha).size (fun b hb => (hrow.lt b hb).1), own_push11 hown hx, (hC.next ha).grown hg (fun e => hcb cb e.symm rfl), fun b hb hz => ?_⟩
  rcases hat with h | h
  · exact hzz b (h ▸ hb) hz
  · rw [h] at hb
    injection hb with hb
    have := (hT.low b hz).2
    have := ha.size
    omega
end Go.Proofs.YtbgdljcgbhhfdaaGreatDoor
