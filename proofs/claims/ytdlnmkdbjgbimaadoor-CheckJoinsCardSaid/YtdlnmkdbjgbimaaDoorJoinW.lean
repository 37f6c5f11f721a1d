/- CheckJoins: the walk. -/
import Derived.Test.YtdlnmkdbjgbimaaDoorJoinP
import Derived.Test.YtdlnmkdbjgbimaaDoorOwnC
import Derived.Test.YtdlnmkdbjgbimaaDoorCkS
namespace Go.Proofs.YtdlnmkdbjgbimaaDoor
open Go.RowKit
attribute [local go_sem ↓] run_atomEq

set_option maxHeartbeats 1000000 in
set_option maxRecDepth 100000 in
theorem eqg_atom {o : Oper} {x y : Operand} {ev : Operand → Value} (a_s a_p : List UInt8) (a_n : Int) (a_v0 a_v1 a_v2 a_v3 : Bool) (a_l0 a_l1 a_l2 a_l3 : List UInt8) (b_s b_p : List UInt8) (b_n : Int) (b_v0 b_v1 b_v2 b_v3 : Bool) (b_l0 b_l1 b_l2 b_l3 : List UInt8) (ho : o.op = Op.binOp .eql 29 x y 29) (hx : ev x = .agg #[.string ⟨a_s.toArray⟩, .string ⟨a_p.toArray⟩, .int .i64 a_n, .bool a_v0, .string ⟨a_l0.toArray⟩, .bool a_v1, .string ⟨a_l1.toArray⟩, .bool a_v2, .string ⟨a_l2.toArray⟩, .bool a_v3, .string ⟨a_l3.toArray⟩]) (hy : ev y = .agg #[.string ⟨b_s.toArray⟩, .string ⟨b_p.toArray⟩, .int .i64 b_n, .bool b_v0, .string ⟨b_l0.toArray⟩, .bool b_v1, .string ⟨b_l1.toArray⟩, .bool b_v2, .string ⟨b_l2.toArray⟩, .bool b_v3, .string ⟨b_l3.toArray⟩]) (W : World) :
    (execOp ev o).run Tryd.prog W = .ok (.value (.bool (eqA ((a_s, a_p, a_n, (a_v0, a_l0), (a_v1, a_l1), (a_v2, a_l2), (a_v3, a_l3)) : Atm) ((b_s, b_p, b_n, (b_v0, b_l0), (b_v1, b_l1), (b_v2, b_l2), (b_v3, b_l3)) : Atm)))) W := by
  simp only [execOp, ho]
  go_simp
theorem st_ints {o : Oper} {x y : Operand} {ev : Operand → Value} {g k : Nat} {a : Option Addr} {n c : Nat} {cs : Array Value} {T : TypeId} (ho : o.op = Op.store 39 x y) (hx : ev x = .pointer (some ⟨g, k, none⟩)) (hy : ev y = .slice a n c) (W : World) (h : Cel W g cs T) (hk : (cs[k]?).isSome = true) :
    (execOp ev o).run Tryd.prog W = .ok .skip (W.setCell ⟨g, k, none⟩ (.slice a n c)) := by
  obtain ⟨u, hu⟩ := Option.isSome_iff_exists.1 hk
  have h1 : W.cell? ⟨g, k, none⟩ = some u := (h.cell k).trans hu
  have h2 := h.free k
  simp only [execOp, ho]
  go_simp
theorem add_ints {o : Oper} {x y : Operand} {ev : Operand → Value} {s t : Int} (ho : o.op = .binOp .add 3 x y 3) (hx : ev x = .int .i64 s) (hy : ev y = .int .i64 t) (h : IntKind.i64.wrap (s + t) = s + t) (W : World) :
    (execOp ev o).run Tryd.prog W = .ok (.value (.int .i64 (s + t))) W := by
  simp only [execOp, ho]
  go_simp
theorem rrow_one (W : World) (x_s x_p : List UInt8) (x_n : Int) (x_v0 x_v1 x_v2 x_v3 : Bool) (x_l0 x_l1 x_l2 x_l3 : List UInt8) (xa : Option Addr) (xc : Nat) (X : List Atm) (h : ARow W (.slice xa X.length xc) X) : RRow (W.alloc (.cells #[.string ⟨x_s.toArray⟩, .string ⟨x_p.toArray⟩, .int .i64 x_n, .bool x_v0, .string ⟨x_l0.toArray⟩, .bool x_v1, .string ⟨x_l1.toArray⟩, .bool x_v2, .string ⟨x_l2.toArray⟩, .bool x_v3, .string ⟨x_l3.toArray⟩, .slice xa X.length xc] 31)) (.slice (some ⟨W.heap.size, 0, none⟩) 1 1) [(((x_s, x_p, x_n, (x_v0, x_l0), (x_v1, x_l1), (x_v2, x_l2), (x_v3, x_l3)) : Atm), X)] := by
  refine ⟨_, _, rfl, Nat.le_refl _, fun _ => ⟨_, _, rfl, fun k hk => ?_⟩⟩
  obtain rfl : k = 0 := by simp at hk; omega
  have hC : Cel (W.alloc (.cells #[.string ⟨x_s.toArray⟩, .string ⟨x_p.toArray⟩, .int .i64 x_n, .bool x_v0, .string ⟨x_l0.toArray⟩, .bool x_v1, .string ⟨x_l1.toArray⟩, .bool x_v2, .string ⟨x_l2.toArray⟩, .bool x_v3, .string ⟨x_l3.toArray⟩, .slice xa X.length xc] 31)) W.heap.size #[.string ⟨x_s.toArray⟩, .string ⟨x_p.toArray⟩, .int .i64 x_n, .bool x_v0, .string ⟨x_l0.toArray⟩, .bool x_v1, .string ⟨x_l1.toArray⟩, .bool x_v2, .string ⟨x_l2.toArray⟩, .bool x_v3, .string ⟨x_l3.toArray⟩, .slice xa X.length xc] 31 := heap_alloc_new W _
  refine ⟨fun j u hu => ?_, _, hC.cell 11, anext h ((Since.refl W).alloc _)⟩
  have hj : j < 11 := (Array.getElem?_eq_some_iff.1 hu).1
  have h2 := hC.cell j
  rw [Nat.zero_mul, Nat.zero_add, h2, ← hu]
  match j, hj with
  | 0, _ => rfl
  | 1, _ => rfl
  | 2, _ => rfl
  | 3, _ => rfl
  | 4, _ => rfl
  | 5, _ => rfl
  | 6, _ => rfl
  | 7, _ => rfl
  | 8, _ => rfl
  | 9, _ => rfl
  | 10, _ => rfl
theorem lightAs_len {m : Int} {L : List Atm} (h : lightAs m L = true) : (L.length : Int) ≤ m := by
  unfold lightAs at h
  split at h
  · cases h
  · omega
theorem lightC_len {L : List Cls} {F : List Atm} (h : lightCB L F = true) : L.length ≤ 6 ∧ F.length ≤ 12 ∧ ∀ c ∈ L, c.2.length ≤ 3 := by
  unfold lightCB at h
  split at h
  · cases h
  · rw [Bool.and_eq_true] at h
    have h1 := lightAs_len h.1
    refine ⟨by omega, by omega, fun c hc => ?_⟩
    have h2 := List.all_eq_true.1 h.2 c hc
    unfold lightC at h2
    rw [Bool.and_eq_true] at h2
    have h3 := lightAs_len h2.2
    omega
theorem lightS_len {T : List Stp} (h : lightSB T = true) : T.length ≤ 40 ∧ ∀ t ∈ T, t.2.2.length ≤ 20 := by
  unfold lightSB at h
  simp only [Bool.and_eq_true, Bool.not_eq_true', decide_eq_false_iff_not] at h
  refine ⟨by omega, fun t ht => ?_⟩
  have h2 := List.all_eq_true.1 h.2 t ht
  unfold lightX at h2
  simp only [Bool.and_eq_true, Bool.not_eq_true', decide_eq_false_iff_not] at h2
  omega
/-- Clauses of the call's own, and one more, whose body lies elsewhere. -/
structure NestP (W : World) (B : Nat) (v : Value) (K : List (Cls × Value)) (c : Cls) (u : Value) : Prop where
  row : W.ownsRow B 31 12 v (K.length + 1) ((K.flatMap fun p => rulC p.1 p.2) ++ rulC c u)
  ins : ∀ p ∈ K, W.ownsRow B 29 11 p.2 p.1.2.length (p.1.2.flatMap atmL)
theorem NestP.next {W W' : World} {B : Nat} {v u : Value} {K : List (Cls × Value)} {c : Cls} (h : NestP W B v K c u) (hs : Since W W') : NestP W' B v K c u := ⟨own_since h.row hs, fun p hp => own_since (h.ins p hp) hs⟩
theorem NestP.other {W W' : World} {B : Nat} {v u : Value} {K : List (Cls × Value)} {c : Cls} {row : Option Nat} (h : NestP W B v K c u) (hg : W.grownBy W' row) (h1 : v.ownBlock = none ∨ v.ownBlock ≠ row) (h2 : ∀ p ∈ K, p.2.ownBlock = none ∨ p.2.ownBlock ≠ row) : NestP W' B v K c u := ⟨h.row.kept hg h1, fun p hp => (h.ins p hp).kept hg (h2 p hp)⟩
theorem nest_plus {W W' : World} {B : Nat} {v v' u : Value} {K : List (Cls × Value)} {c : Cls} {xs : List Value} (h : NestK W B v K) (hown : W'.ownsRow B 31 12 v' (K.length + 1) ((K.flatMap fun p => rulC p.1 p.2) ++ xs)) (hx : xs = rulC c u) (hg : W.grownBy W' v.ownBlock) : NestP W' B v' K c u :=
  ⟨hx ▸ hown, fun p hp => (h.ins p hp).kept hg (own_kind_apart (h.ins p hp) h.row (by decide))⟩
theorem nestp_rrow {W : World} {B : Nat} {v u : Value} {K : List (Cls × Value)} {c : Cls} (h : NestP W B v K c u) (hX : ARow W u c.2) : RRow W v (K.map Prod.fst ++ [c]) := by
  have hr := h.row
  have e : (K.flatMap fun p => rulC p.1 p.2) ++ rulC c u = (K ++ [(c, u)]).flatMap fun p => rulC p.1 p.2 := by simp
  rw [e, show K.length + 1 = (K ++ [(c, u)]).length by simp] at hr
  have h2 : RRow W v ((K ++ [(c, u)]).map Prod.fst) := krow_fst (krow_own (f := fun p => rulC p.1 p.2) (fun _ => rfl) (fun _ _ p hp hc => ⟨fun j u hu => hc j u (by
    show ((atmC p.1.1).toList ++ [p.2])[j]? = some u
    have hj : j < (atmC p.1.1).toList.length := by rw [Array.length_toList]; exact (Array.getElem?_eq_some_iff.1 hu).1
    rw [List.getElem?_append_left hj, Array.getElem?_toList]; exact hu), p.2, hc 11 _ rfl, by
      rcases List.mem_append.1 hp with hp | hp
      · exact own_arow (h.ins p hp)
      · obtain rfl := List.mem_singleton.1 hp; exact hX⟩) hr)
  rwa [List.map_append] at h2
theorem own_dbl {W : World} {B : Nat} {v : Value} {G : List Atm} (h : W.ownsRow B 29 11 v (G.length + G.length) (G.flatMap atmL ++ G.flatMap atmL)) : ARow W v (G ++ G) := by
  rw [← List.flatMap_append, ← List.length_append] at h
  exact own_arow h
/-- What is known of 'twice' ahead of step i. -/
def TwOk (T U : List Stp) (i : Nat) (tw : Value) : Prop := (tw = .int .i64 (-1) ∧ twiceS T U 0 = twiceS T (U.drop i) i) ∨ (∃ j : Nat, j < U.length ∧ tw = .int .i64 (((T.length + j : Nat) : Int)) ∧ twiceS T U 0 = some j)
/-- The same, in the middle of step i, whose atom is a. -/
def TwMid (T U : List Stp) (i : Nat) (a : Atm) (k : Nat) (tw : Value) : Prop := (tw = .int .i64 (-1) ∧ twiceS T U 0 = twiceS T (U.drop i) i ∧ ¬ a ∈ (T.take k).map fun t => t.1) ∨ (∃ j : Nat, j < U.length ∧ tw = .int .i64 (((T.length + j : Nat) : Int)) ∧ twiceS T U 0 = some j)
theorem TwOk.mid {T U : List Stp} {i : Nat} {tw : Value} (h : TwOk T U i tw) (a : Atm) : TwMid T U i a 0 tw := by
  rcases h with ⟨h1, h2⟩ | h
  · exact .inl ⟨h1, h2, by simp⟩
  · exact .inr h
theorem tw_no {T U : List Stp} {i k : Nat} {a : Atm} (hk : k < T.length) (h2 : twiceS T U 0 = twiceS T (U.drop i) i) (h3 : ¬ a ∈ (T.take k).map fun t => t.1) (hne : eqA (T[k]).1 a = false) : TwMid T U i a (k + 1) (.int .i64 (-1)) := by
  refine .inl ⟨rfl, h2, ?_⟩
  rw [List.take_succ_eq_append_getElem hk, List.map_append, List.mem_append]
  rintro (h | h)
  · exact h3 h
  · have h4 : a = (T[k]).1 := by simpa using h
    rw [← h4, eqA_self] at hne; cases hne
theorem tw_yes {T U : List Stp} {i k j : Nat} {s : Stp} (hk : k < T.length) (hi : i < U.length) (hs : s = U[i]) (h2 : twiceS T U 0 = twiceS T (U.drop i) i) (he : eqA (T[k]).1 s.1 = true) : TwMid T U i s.1 j (.int .i64 (((T.length + i : Nat) : Int))) := by
  refine .inr ⟨i, hi, rfl, ?_⟩
  rw [h2, List.drop_eq_getElem_cons hi, twiceS, if_pos]
  rw [← hs, ← eqA_iff.1 he]
  exact decide_eq_true (List.mem_map_of_mem (List.getElem_mem hk))
theorem tw_end {T U : List Stp} {i : Nat} {s : Stp} {tw : Value} (hi : i < U.length) (hs : s = U[i]) (h : TwMid T U i s.1 T.length tw) : TwOk T U (i + 1) tw := by
  rcases h with ⟨h1, h2, h3⟩ | h
  · refine .inl ⟨h1, ?_⟩
    rw [h2, List.drop_eq_getElem_cons hi, twiceS, if_neg]
    rw [← hs]
    rw [List.take_of_length_le (Nat.le_refl _)] at h3
    simpa using h3
  · exact .inr h
theorem tw_some {T U : List Stp} {i k : Nat} {a : Atm} {j : Nat} (hj : j < U.length) (h : twiceS T U 0 = some j) : TwMid T U i a k (.int .i64 (((T.length + j : Nat) : Int))) := .inr ⟨j, hj, rfl, h⟩
/-- The steps joined so far. -/
def JSt (w1 W : World) (B0 : Nat) (v : Value) (T U : List Stp) (i : Nat) : Prop := ∃ N, N.map Prod.fst = bothS T (U.take i) ∧ NestS W B0 v N ∧ w1.heap.size ≤ B0 ∧ B0 ≤ W.heap.size ∧ Since w1 W
/-- The step under way. -/
def XBx (wo W : World) (g : Nat) (y_s y_p : List UInt8) (y_n : Int) (y_v0 y_v1 y_v2 y_v3 : Bool) (y_l0 y_l1 y_l2 y_l3 : List UInt8) (c : Int) (D : List Int) : Prop := ∃ a k, Cel W g #[.string ⟨y_s.toArray⟩, .string ⟨y_p.toArray⟩, .int .i64 y_n, .bool y_v0, .string ⟨y_l0.toArray⟩, .bool y_v1, .string ⟨y_l1.toArray⟩, .bool y_v2, .string ⟨y_l2.toArray⟩, .bool y_v3, .string ⟨y_l3.toArray⟩, .int .i64 c, .slice a D.length k] 41 ∧ W.ownsRow wo.heap.size 3 1 (.slice a D.length k) D.length (D.flatMap intL) ∧ wo.heap.size ≤ g ∧ Since wo W
theorem both_more (T U : List Stp) (i : Nat) (hi : i < U.length) : bothS T (U.take i) ++ [shiftS T.length U[i]] = bothS T (U.take (i + 1)) := by
  unfold bothS
  rw [List.take_succ_eq_append_getElem hi, List.map_append, List.append_assoc]; rfl
set_option maxHeartbeats 0 in
set_option maxRecDepth 100000 in
theorem joins_any (va : Option Addr) (lc : Nat) (L : List Cls) (vf : Option Addr) (fc : Nat) (G : List Atm) (vs : Option Addr) (tc : Nat) (T : List Stp) (vu : Option Addr) (uc : Nat) (U : List Stp) (x_s x_p : List UInt8) (x_n : Int) (x_v0 x_v1 x_v2 x_v3 : Bool) (x_l0 x_l1 x_l2 x_l3 : List UInt8) (xa : Option Addr) (xc : Nat) (X : List Atm) (w : World) (hv : RRow w (.slice va L.length lc) L) (hg : ARow w (.slice vf G.length fc) G) (ht : SRow w (.slice vs T.length tc) T) (hu : SRow w (.slice vu U.length uc) U) (hx : ARow w (.slice xa X.length xc) X)
    (hF : ∀ c ∈ L, FitsC c) (hG : ∀ a ∈ G, FitsN a) (hT : ∀ t ∈ T, FitsN t.1) (hU : ∀ t ∈ U, FitsN t.1) (hc : FitsC (((x_s, x_p, x_n, (x_v0, x_l0), (x_v1, x_l1), (x_v2, x_l2), (x_v3, x_l3)) : Atm), X)) (hE : Env w) :
    Calls Tryd.prog 3 #[.slice va L.length lc, .slice vf G.length fc, .slice vs T.length tc, .slice vu U.length uc, .agg #[.string ⟨x_s.toArray⟩, .string ⟨x_p.toArray⟩, .int .i64 x_n, .bool x_v0, .string ⟨x_l0.toArray⟩, .bool x_v1, .string ⟨x_l1.toArray⟩, .bool x_v2, .string ⟨x_l2.toArray⟩, .bool x_v3, .string ⟨x_l3.toArray⟩, .slice xa X.length xc]] w fun e w' => e = .returned (.bool true) ∧ Since w w' := by
  obtain ⟨i2, hi, hz0, hz1, hz2⟩ := info_parts stpInfo
  have I2 := Lib.hid (And.intro hi (And.intro hz0 (And.intro hz1 hz2)))
  clear hi hz0 hz1 hz2
  obtain ⟨i3, hi, hz0, hz1, hz2⟩ := info_parts own_int_info
  have I3 := Lib.hid (And.intro hi (And.intro hz0 (And.intro hz1 hz2)))
  clear hi hz0 hz1 hz2
  obtain ⟨i4, hi, hz0, hz1, hz2⟩ := info_parts rulInfo
  have I4 := Lib.hid (And.intro hi (And.intro hz0 (And.intro hz1 hz2)))
  clear hi hz0 hz1 hz2
  obtain ⟨i5, hi, hz0, hz1, hz2⟩ := info_parts own_atm_info
  have I5 := Lib.hid (And.intro hi (And.intro hz0 (And.intro hz1 hz2)))
  clear hi hz0 hz1 hz2
  have hS0 : Since w (w.alloc (.cells #[.string ⟨x_s.toArray⟩, .string ⟨x_p.toArray⟩, .int .i64 x_n, .bool x_v0, .string ⟨x_l0.toArray⟩, .bool x_v1, .string ⟨x_l1.toArray⟩, .bool x_v2, .string ⟨x_l2.toArray⟩, .bool x_v3, .string ⟨x_l3.toArray⟩, .slice xa X.length xc] 31)) := (Since.refl w).alloc _
  have hb0 : Cel (w.alloc (.cells #[.string ⟨x_s.toArray⟩, .string ⟨x_p.toArray⟩, .int .i64 x_n, .bool x_v0, .string ⟨x_l0.toArray⟩, .bool x_v1, .string ⟨x_l1.toArray⟩, .bool x_v2, .string ⟨x_l2.toArray⟩, .bool x_v3, .string ⟨x_l3.toArray⟩, .slice xa X.length xc] 31)) w.heap.size #[.string ⟨x_s.toArray⟩, .string ⟨x_p.toArray⟩, .int .i64 x_n, .bool x_v0, .string ⟨x_l0.toArray⟩, .bool x_v1, .string ⟨x_l1.toArray⟩, .bool x_v2, .string ⟨x_l2.toArray⟩, .bool x_v3, .string ⟨x_l3.toArray⟩, .slice xa X.length xc] 31 := heap_alloc_new w _
  have ha0 := hb0.at
  have HE := Lib.hid (hE.next hS0)
  have HV := Lib.hid (rnext hv hS0)
  have HG := Lib.hid (anext hg hS0)
  have HT := Lib.hid (snext ht hS0)
  have HU := Lib.hid (snext hu hS0)
  have HX := Lib.hid (anext hx hS0)
  have HFL := Lib.hid hF
  have HFG := Lib.hid hG
  have HFT := Lib.hid hT
  have HFU := Lib.hid hU
  have HFX := Lib.hid hc
  clear hE hv hg ht hu hx hF hG hT hU hc hb0
  go_enter Tryd.func3, Tryd.ntmps3
  go_upto_region 1 with (fail)
  generalize hw1 : w.alloc (.cells #[.string ⟨x_s.toArray⟩, .string ⟨x_p.toArray⟩, .int .i64 x_n, .bool x_v0, .string ⟨x_l0.toArray⟩, .bool x_v1, .string ⟨x_l1.toArray⟩, .bool x_v2, .string ⟨x_l2.toArray⟩, .bool x_v3, .string ⟨x_l3.toArray⟩, .slice xa X.length xc] 31) = w1 at *
  clear hw1
  obtain ⟨LC, hLC⟩ : ∃ B, Hid (B = lightCB L G) := ⟨_, rfl⟩
  obtain ⟨LS, hLS⟩ : ∃ B, Hid (B = lightSB T) := ⟨_, rfl⟩
  obtain ⟨LU, hLU⟩ : ∃ B, Hid (B = lightSB U) := ⟨_, rfl⟩
  obtain ⟨LX, hLX⟩ : ∃ B, Hid (B = lightCB [(((x_s, x_p, x_n, (x_v0, x_l0), (x_v1, x_l1), (x_v2, x_l2), (x_v3, x_l3)) : Atm), X)] []) := ⟨_, rfl⟩
  obtain ⟨MX, hMX⟩ : ∃ B, Hid (B = mayC [(((x_s, x_p, x_n, (x_v0, x_l0), (x_v1, x_l1), (x_v2, x_l2), (x_v3, x_l3)) : Atm), X)] []) := ⟨_, rfl⟩
  have H1 := Lib.hid (fun W (h : Since w1 W) => lightclauses_any _ _ L G W (rnext HV.out h) (anext HG.out h))
  have H2 := Lib.hid (fun W (h : Since w1 W) => lightsteps_any _ T W (snext HT.out h))
  have H3 := Lib.hid (fun W (h : Since w1 W) => lightsteps_any _ U W (snext HU.out h))
  have H4 := Lib.hid (fun W (h : Since w1 W) => lightclauses_any _ (.slice none 0 0) [(((x_s, x_p, x_n, (x_v0, x_l0), (x_v1, x_l1), (x_v2, x_l2), (x_v3, x_l3)) : Atm), X)] [] _ (rrow_one W x_s x_p x_n x_v0 x_v1 x_v2 x_v3 x_l0 x_l1 x_l2 x_l3 xa xc X (anext HX.out h)) (KRow.nil _ _))
  rw [← hLC.out] at H1
  rw [← hLS.out] at H2
  rw [← hLU.out] at H3
  rw [← hLX.out] at H4
  go_wp2_with fail
  refine (lives22_any _ HE.out).mono ?_
  rintro e w2 ⟨rfl, hb2⟩
  cases LC
  · clear ha0
    go_wp2_with fail
    refine (H1.out _ hb2).mono ?_
    rintro e w3 ⟨rfl, hb3⟩
    go_wp2_with fail
    go_ret
    exact ⟨rfl, (hS0.trans hb2).trans hb3⟩
  cases LS
  · clear ha0
    go_wp2_with fail
    refine (H1.out _ hb2).mono ?_
    rintro e w3 ⟨rfl, hb3⟩
    go_wp2_with fail
    refine (H2.out _ (hb2.trans hb3)).mono ?_
    rintro e w4 ⟨rfl, hb4⟩
    go_wp2_with fail
    go_ret
    exact ⟨rfl, ((hS0.trans hb2).trans hb3).trans hb4⟩
  go_wp2_with fail
  refine (H1.out _ hb2).mono ?_
  rintro e w3 ⟨rfl, hb3⟩
  go_wp2_with fail
  refine (H2.out _ (hb2.trans hb3)).mono ?_
  rintro e w4 ⟨rfl, hb4⟩
  have hS4 := (hb2.trans hb3).trans hb4
  cases LU
  · clear ha0
    go_wp2_with fail
    refine (H3.out _ hS4).mono ?_
    rintro e w5 ⟨rfl, hb5⟩
    go_wp2_with fail
    go_ret
    exact ⟨rfl, (hS0.trans hS4).trans hb5⟩
  go_wp2_with fail
  refine (H3.out _ hS4).mono ?_
  rintro e w5 ⟨rfl, hb5⟩
  have hS5 := hS4.trans hb5
  have ha5 := ha0.next hS5
  have s0 : w5.cell? ⟨w.heap.size, 0, none⟩ = some (.string ⟨x_s.toArray⟩) := ha5 0 _ rfl
  have s1 : w5.cell? ⟨w.heap.size, 1, none⟩ = some (.string ⟨x_p.toArray⟩) := ha5 1 _ rfl
  have s2 : w5.cell? ⟨w.heap.size, 2, none⟩ = some (.int .i64 x_n) := ha5 2 _ rfl
  have s3 : w5.cell? ⟨w.heap.size, 3, none⟩ = some (.bool x_v0) := ha5 3 _ rfl
  have s4 : w5.cell? ⟨w.heap.size, 4, none⟩ = some (.string ⟨x_l0.toArray⟩) := ha5 4 _ rfl
  have s5 : w5.cell? ⟨w.heap.size, 5, none⟩ = some (.bool x_v1) := ha5 5 _ rfl
  have s6 : w5.cell? ⟨w.heap.size, 6, none⟩ = some (.string ⟨x_l1.toArray⟩) := ha5 6 _ rfl
  have s7 : w5.cell? ⟨w.heap.size, 7, none⟩ = some (.bool x_v2) := ha5 7 _ rfl
  have s8 : w5.cell? ⟨w.heap.size, 8, none⟩ = some (.string ⟨x_l2.toArray⟩) := ha5 8 _ rfl
  have s9 : w5.cell? ⟨w.heap.size, 9, none⟩ = some (.bool x_v3) := ha5 9 _ rfl
  have s10 : w5.cell? ⟨w.heap.size, 10, none⟩ = some (.string ⟨x_l3.toArray⟩) := ha5 10 _ rfl
  have s11 : w5.cell? ⟨w.heap.size, 11, none⟩ = some (.slice xa X.length xc) := ha5 11 _ rfl
  clear hb2 hb3 hb4 hb5 H1 H2 H3
  cases LX
  · go_wp2_with fail
    refine (H4.out _ hS5).mono ?_
    rintro e w6 ⟨rfl, hb6⟩
    go_wp2_with fail
    go_ret
    exact ⟨rfl, hS0.trans ((hS5.alloc _).trans hb6)⟩
  obtain ⟨l1, l2, l3⟩ := lightC_len hLC.out.symm
  obtain ⟨l4, l5⟩ := lightS_len hLS.out.symm
  obtain ⟨l6, l7⟩ := lightS_len hLU.out.symm
  obtain ⟨-, -, l8⟩ := lightC_len hLX.out.symm
  have hX3 : X.length ≤ 3 := l8 _ (List.mem_singleton.2 rfl)
  have H5 := Lib.hid (fun W (h : Since w1 W) => r16may_any _ (.slice none 0 0) [(((x_s, x_p, x_n, (x_v0, x_l0), (x_v1, x_l1), (x_v2, x_l2), (x_v3, x_l3)) : Atm), X)] [] _ (rrow_one W x_s x_p x_n x_v0 x_v1 x_v2 x_v3 x_l0 x_l1 x_l2 x_l3 xa xc X (anext HX.out h)) (KRow.nil _ _) (by simp) (by simp) (fun c h => by obtain rfl := List.mem_singleton.1 h; show X.length ≤ 100000; omega) (fun c h => by obtain rfl := List.mem_singleton.1 h; exact HFX.out) (fun a h => by cases h) (HE.out.next (h.alloc _)))
  rw [← hMX.out] at H5
  go_wp2_with fail
  refine (H4.out _ hS5).mono ?_
  rintro e w6 ⟨rfl, hb6⟩
  have hS6 := (hS5.alloc (.cells #[.string ⟨x_s.toArray⟩, .string ⟨x_p.toArray⟩, .int .i64 x_n, .bool x_v0, .string ⟨x_l0.toArray⟩, .bool x_v1, .string ⟨x_l1.toArray⟩, .bool x_v2, .string ⟨x_l2.toArray⟩, .bool x_v3, .string ⟨x_l3.toArray⟩, .slice xa X.length xc] 31)).trans hb6
  clear s0 s1 s2 s3 s4 s5 s6 s7 s8 s9 s10 s11 ha5
  have ha6 := ha0.next hS6
  have s0 : w6.cell? ⟨w.heap.size, 0, none⟩ = some (.string ⟨x_s.toArray⟩) := ha6 0 _ rfl
  have s1 : w6.cell? ⟨w.heap.size, 1, none⟩ = some (.string ⟨x_p.toArray⟩) := ha6 1 _ rfl
  have s2 : w6.cell? ⟨w.heap.size, 2, none⟩ = some (.int .i64 x_n) := ha6 2 _ rfl
  have s3 : w6.cell? ⟨w.heap.size, 3, none⟩ = some (.bool x_v0) := ha6 3 _ rfl
  have s4 : w6.cell? ⟨w.heap.size, 4, none⟩ = some (.string ⟨x_l0.toArray⟩) := ha6 4 _ rfl
  have s5 : w6.cell? ⟨w.heap.size, 5, none⟩ = some (.bool x_v1) := ha6 5 _ rfl
  have s6 : w6.cell? ⟨w.heap.size, 6, none⟩ = some (.string ⟨x_l1.toArray⟩) := ha6 6 _ rfl
  have s7 : w6.cell? ⟨w.heap.size, 7, none⟩ = some (.bool x_v2) := ha6 7 _ rfl
  have s8 : w6.cell? ⟨w.heap.size, 8, none⟩ = some (.string ⟨x_l2.toArray⟩) := ha6 8 _ rfl
  have s9 : w6.cell? ⟨w.heap.size, 9, none⟩ = some (.bool x_v3) := ha6 9 _ rfl
  have s10 : w6.cell? ⟨w.heap.size, 10, none⟩ = some (.string ⟨x_l3.toArray⟩) := ha6 10 _ rfl
  have s11 : w6.cell? ⟨w.heap.size, 11, none⟩ = some (.slice xa X.length xc) := ha6 11 _ rfl
  clear hb6 H4 hLX l8
  cases MX
  · go_wp2_with fail
    refine (H5.out _ hS6).mono ?_
    rintro e w7 ⟨rfl, hb7⟩
    go_wp2_with fail
    go_ret
    exact ⟨rfl, hS0.trans ((hS6.alloc _).trans hb7)⟩
  have hcB : Hid (clauseB (((x_s, x_p, x_n, (x_v0, x_l0), (x_v1, x_l1), (x_v2, x_l2), (x_v3, x_l3)) : Atm), X) = true) := by
    have h := hMX.out.symm
    unfold mayC at h
    rw [Bool.and_eq_true] at h
    exact List.all_eq_true.1 h.1 _ (List.mem_singleton.2 rfl)
  have hT2 : ∀ t ∈ T, FitsN t.1 ∧ t.2.2.length ≤ 100000 := fun t h => ⟨HFT.out t h, by have := l5 t h; omega⟩
  have hU2 : ∀ t ∈ U, FitsN t.1 ∧ t.2.2.length ≤ 100000 := fun t h => ⟨HFU.out t h, by have := l7 t h; omega⟩
  have hL9 : ∀ c ∈ L, c.2.length ≤ 100 := fun c h => by have := l3 c h; omega
  have HSO1 := Lib.hid (fun W (h : Since w1 W) => ksound_main va lc L vf fc G vs tc T W (rnext HV.out h) (anext HG.out h) (snext HT.out h) (by omega) (by omega) (by omega) hL9 HFL.out HFG.out hT2 (HE.out.next h))
  have HSO2 := Lib.hid (fun W (h : Since w1 W) => ksound_main va lc L vf fc G vu uc U W (rnext HV.out h) (anext HG.out h) (snext HU.out h) (by omega) (by omega) (by omega) hL9 HFL.out HFG.out hU2 (HE.out.next h))
  obtain ⟨at1, er1, hs1⟩ : ∃ x y, Hid ((x, y) = soundS L G T) := ⟨_, _, rfl⟩
  obtain ⟨at2, er2, hs2⟩ : ∃ x y, Hid ((x, y) = soundS L G U) := ⟨_, _, rfl⟩
  rw [← hs1.out] at HSO1
  rw [← hs2.out] at HSO2
  simp only at HSO1 HSO2
  go_wp2_with fail
  refine (H5.out _ hS6).mono ?_
  rintro e w7 ⟨rfl, hb7⟩
  have hS7 := (hS6.alloc (.cells #[.string ⟨x_s.toArray⟩, .string ⟨x_p.toArray⟩, .int .i64 x_n, .bool x_v0, .string ⟨x_l0.toArray⟩, .bool x_v1, .string ⟨x_l1.toArray⟩, .bool x_v2, .string ⟨x_l2.toArray⟩, .bool x_v3, .string ⟨x_l3.toArray⟩, .slice xa X.length xc] 31)).trans hb7
  clear s0 s1 s2 s3 s4 s5 s6 s7 s8 s9 s10 s11 ha6 hb7 H5 hMX
  go_wp2_with fail
  refine (HSO1.out _ hS7).mono ?_
  rintro e w8 ⟨rfl, hb8⟩
  have hS8 := hS7.trans hb8
  go_wp2_with fail
  refine (HSO2.out _ hS8).mono ?_
  rintro e w9 ⟨rfl, hb9⟩
  have hS9 := hS8.trans hb9
  clear hb8 hb9 HSO1 HSO2 hLC hLS hLU
  by_cases he1 : er1 = 0
  case neg =>
    have hz1 : (er1 != 0) = true := by simpa using he1
    have hz2 : (er1 == 0) = false := by simpa using he1
    go_wp2_with fail
    go_ret
    exact ⟨rfl, hS0.trans hS9⟩
  by_cases he2 : er2 = 0
  case neg =>
    subst he1
    have hz1 : (er2 != 0) = true := by simpa using he2
    have hz2 : (er2 == 0) = false := by simpa using he2
    go_wp2_with fail
    go_ret
    exact ⟨rfl, hS0.trans hS9⟩
  subst he1
  subst he2
  have HLAW : Hid (soundS (L ++ [(((x_s, x_p, x_n, (x_v0, x_l0), (x_v1, x_l1), (x_v2, x_l2), (x_v3, x_l3)) : Atm), X)]) (G ++ G) (bothS T U) = match twiceS T U 0 with | some j => (((T.length + j : Nat) : Int), 15) | none => (0, 0)) :=
    join_law (by rw [← hs1.out]) (by rw [← hs2.out]) hcB.out
  have HCI : Hid (∀ (i : Nat) (s : Stp), U[i]? = some s → ∀ x ∈ s.2.2, 0 ≤ x ∧ x < (i : Int)) := fun i s h => cites_in (L := L) (F := G) (by rw [← hs2.out]) h
  clear hs1 hs2 hcB
  go_wp2_with fail
  refine (ownsteps_any _ T _ (snext HT.out hS9) (by omega) (fun t h => by have := l5 t h; omega)).mono ?_
  rintro e w10 ⟨vb, rfl, N0, eN0, hN0, hb10⟩
  have hJ0 : JSt w1 w10 w9.heap.size vb T U 0 := ⟨N0, by rw [eN0]; simp [bothS], hN0, hS9.size, hb10.size, hS9.trans hb10⟩
  have hTw0 : TwOk T U 0 (.int .i64 (-1)) := .inl ⟨rfl, rfl⟩
  obtain ⟨B0, hB0⟩ : ∃ B, Hid (w9.heap.size = B) := ⟨_, rfl⟩
  rw [hB0.out] at hJ0
  clear hb10 hN0 eN0 hB0 hS9 hS8 hS7 hS6 hS5 hS4
  go_wp2_with fail
  go_loopw [15, 16, 17, 18, 19, 20] (fun v tw m _ _ _ wr => ∃ i : Nat, i ≤ U.length ∧ m = .int .i64 (i : Int) ∧ TwOk T U i tw ∧ JSt w1 wr B0 v T U i) (fun _ _ m _ _ _ _ => U.length - (intOf m).toNat)
  case atStart => exact ⟨0, by omega, rfl, hTw0, hJ0⟩
  case round =>
  rename World => wo
  clear hJ0 hTw0
  obtain ⟨i, hi, rfl, hTw, hJ⟩ := hrel
  have hSo : Since w1 wo := by obtain ⟨_, _, _, _, _, h⟩ := hJ; exact h
  by_cases hlt : i < U.length
  · have hlt2 : (i : Int) < (U.length : Int) := by omega
    have hlt0 : (0 : Int) ≤ (i : Int) := by omega
    go_wp2_with fail
    obtain ⟨bu, ou, e1, hcu, hat⟩ := HU.out.get (by omega)
    have d1 := hat i hlt
    have hci := HCI.out i U[i] (List.getElem?_eq_getElem hlt)
    have hcl := l7 _ (List.getElem_mem hlt)
    obtain ⟨⟨⟨y_s, y_p, y_n, ⟨y_v0, y_l0⟩, ⟨y_v1, y_l1⟩, ⟨y_v2, y_l2⟩, ⟨y_v3, y_l3⟩⟩, y_c, C⟩, hy⟩ : ∃ x, Hid (x = U[i]) := ⟨U[i], rfl⟩
    rw [← hy.out] at d1 hci hcl
    obtain ⟨d1, d2, u, d3, d4⟩ := d1
    obtain ⟨ca, cc, rfl⟩ := d4.slice
    simp only at d2 d3 hci hcl
    have yA0 : At w1 bu (ou + i * 13) #[.string ⟨y_s.toArray⟩, .string ⟨y_p.toArray⟩, .int .i64 y_n, .bool y_v0, .string ⟨y_l0.toArray⟩, .bool y_v1, .string ⟨y_l1.toArray⟩, .bool y_v2, .string ⟨y_l2.toArray⟩, .bool y_v3, .string ⟨y_l3.toArray⟩] := d1
    have uA0 : At w1 bu (ou + i * 13 + 11) #[.int .i64 y_c, .slice ca C.length cc] := at_two d2 d3
    have yA := yA0.next hSo
    have uA := uA0.next hSo
    have HD4 := Lib.hid d4
    subst e1
    clear hat d1 d2 d3 d4 yA0
    have hR : Since wo wo := Since.refl _
    replace hR := hR.trans ((Since.refl wo).drew)
    replace yA := yA.next ((Since.refl wo).drew)
    replace uA := uA.next ((Since.refl wo).drew)
    refine hx_begin (S := fun W => (Since wo W) ∧ (At W bu (ou + i * 13) #[.string ⟨y_s.toArray⟩, .string ⟨y_p.toArray⟩, .int .i64 y_n, .bool y_v0, .string ⟨y_l0.toArray⟩, .bool y_v1, .string ⟨y_l1.toArray⟩, .bool y_v2, .string ⟨y_l2.toArray⟩, .bool y_v3, .string ⟨y_l3.toArray⟩]) ∧ (At W bu (ou + i * 13 + 11) #[.int .i64 y_c, .slice ca C.length cc])) (by kernel_rfl) ⟨hR, yA, uA⟩ (by kernel_rfl) (fun _ _ _ _ _ h => h) (fun hns hQ => ?_)
    refine hx_take (i := 0) (oi := _) (v := .slice (some ⟨bu, ou, none⟩) U.length uc) rfl rfl hns (by kernel_rfl) (by kernel_rfl) hQ (by kernel_rfl) (fun _ _ => by kernel_rfl) ⟨hR, yA, uA⟩ ?_
    refine hx_take (i := 1) (oi := _) (v := .int .i64 (i : Int)) rfl rfl hns (by kernel_rfl) (by kernel_rfl) hQ (by kernel_rfl) (fun _ _ => by kernel_rfl) ⟨hR, yA, uA⟩ ?_
    refine hx_take (i := 2) (oi := _) (v := .pointer (some ⟨bu, ou + i * 13, none⟩)) rfl rfl hns (by kernel_rfl) (by kernel_rfl) hQ (by kernel_rfl) (fun W _ => ix_sl (n := U.length) (c := uc) (K := 13) rfl (by kernel_rfl) (by kernel_rfl) (by kernel_rfl) rfl hlt W) ⟨hR, yA, uA⟩ ?_
    refine hx_take (i := 3) (oi := _) (v := .pointer (some ⟨bu, ou + i * 13, none⟩)) rfl rfl hns (by kernel_rfl) (by kernel_rfl) hQ (by kernel_rfl) (fun _ _ => by kernel_rfl) ⟨hR, yA, uA⟩ ?_
    refine hx_take (i := 4) (oi := _) (v := .agg #[.string ⟨y_s.toArray⟩, .string ⟨y_p.toArray⟩, .int .i64 y_n, .bool y_v0, .string ⟨y_l0.toArray⟩, .bool y_v1, .string ⟨y_l1.toArray⟩, .bool y_v2, .string ⟨y_l2.toArray⟩, .bool y_v3, .string ⟨y_l3.toArray⟩]) rfl rfl hns (by kernel_rfl) (by kernel_rfl) hQ (by kernel_rfl) (fun W hW => ld_at rfl (by kernel_rfl) (by kernel_rfl) (by kernel_rfl) W (hW.2.1)) ⟨hR, yA, uA⟩ ?_
    refine hx_take (i := 5) (oi := _) (v := .slice (some ⟨bu, ou, none⟩) U.length uc) rfl rfl hns (by kernel_rfl) (by kernel_rfl) hQ (by kernel_rfl) (fun _ _ => by kernel_rfl) ⟨hR, yA, uA⟩ ?_
    refine hx_take (i := 6) (oi := _) (v := .int .i64 (i : Int)) rfl rfl hns (by kernel_rfl) (by kernel_rfl) hQ (by kernel_rfl) (fun _ _ => by kernel_rfl) ⟨hR, yA, uA⟩ ?_
    refine hx_take (i := 7) (oi := _) (v := .pointer (some ⟨bu, ou + i * 13, none⟩)) rfl rfl hns (by kernel_rfl) (by kernel_rfl) hQ (by kernel_rfl) (fun W _ => ix_sl (n := U.length) (c := uc) (K := 13) rfl (by kernel_rfl) (by kernel_rfl) (by kernel_rfl) rfl hlt W) ⟨hR, yA, uA⟩ ?_
    refine hx_take (i := 8) (oi := _) (v := .pointer (some ⟨bu, ou + i * 13 + 11, none⟩)) rfl rfl hns (by kernel_rfl) (by kernel_rfl) hQ (by kernel_rfl) (fun _ _ => by kernel_rfl) ⟨hR, yA, uA⟩ ?_
    refine hx_take (i := 9) (oi := _) (v := .int .i64 y_c) rfl rfl hns (by kernel_rfl) (by kernel_rfl) hQ (by kernel_rfl) (fun W hW => ld_one rfl (by kernel_rfl) (by kernel_rfl) W (hW.2.2 0 _ rfl)) ⟨hR, yA, uA⟩ ?_
    refine hx_take (i := 10) (oi := _) (v := .agg #[.string ⟨y_s.toArray⟩, .string ⟨y_p.toArray⟩, .int .i64 y_n, .bool y_v0, .string ⟨y_l0.toArray⟩, .bool y_v1, .string ⟨y_l1.toArray⟩, .bool y_v2, .string ⟨y_l2.toArray⟩, .bool y_v3, .string ⟨y_l3.toArray⟩, .int .i64 y_c, .slice none 0 0]) rfl rfl hns (by kernel_rfl) (by kernel_rfl) hQ (by kernel_rfl) (fun _ _ => by kernel_rfl) ⟨hR, yA, uA⟩ ?_
    have hR_ := hR
    have yA_ := yA
    have uA_ := uA
    replace hR := hR.trans ((Since.refl wo.drew).alloc (.cells #[.string ⟨#[]⟩, .string ⟨#[]⟩, .int .i64 0, .bool false, .string ⟨#[]⟩, .bool false, .string ⟨#[]⟩, .bool false, .string ⟨#[]⟩, .bool false, .string ⟨#[]⟩, .int .i64 0, .slice none 0 0] 41))
    replace yA := yA.next ((Since.refl wo.drew).alloc (.cells #[.string ⟨#[]⟩, .string ⟨#[]⟩, .int .i64 0, .bool false, .string ⟨#[]⟩, .bool false, .string ⟨#[]⟩, .bool false, .string ⟨#[]⟩, .bool false, .string ⟨#[]⟩, .int .i64 0, .slice none 0 0] 41))
    replace uA := uA.next ((Since.refl wo.drew).alloc (.cells #[.string ⟨#[]⟩, .string ⟨#[]⟩, .int .i64 0, .bool false, .string ⟨#[]⟩, .bool false, .string ⟨#[]⟩, .bool false, .string ⟨#[]⟩, .bool false, .string ⟨#[]⟩, .int .i64 0, .slice none 0 0] 41))
    refine hx_make (i := 11) (oi := _) (.pointer (some ⟨wo.drew.heap.size, 0, none⟩)) (wo.drew.alloc (.cells #[.string ⟨#[]⟩, .string ⟨#[]⟩, .int .i64 0, .bool false, .string ⟨#[]⟩, .bool false, .string ⟨#[]⟩, .bool false, .string ⟨#[]⟩, .bool false, .string ⟨#[]⟩, .int .i64 0, .slice none 0 0] 41)) rfl rfl (by kernel_rfl) (by kernel_rfl) (by kernel_rfl) ⟨hR, yA, uA⟩ ?_
    have hgr : Since wo.drew ((wo.drew.alloc (.cells #[.string ⟨#[]⟩, .string ⟨#[]⟩, .int .i64 0, .bool false, .string ⟨#[]⟩, .bool false, .string ⟨#[]⟩, .bool false, .string ⟨#[]⟩, .bool false, .string ⟨#[]⟩, .int .i64 0, .slice none 0 0] 41)).setRow wo.drew.heap.size #[.string ⟨y_s.toArray⟩, .string ⟨y_p.toArray⟩, .int .i64 y_n, .bool y_v0, .string ⟨y_l0.toArray⟩, .bool y_v1, .string ⟨y_l1.toArray⟩, .bool y_v2, .string ⟨y_l2.toArray⟩, .bool y_v3, .string ⟨y_l3.toArray⟩, .int .i64 y_c, .slice none 0 0]) := since_new _ _ _
    replace hR := hR_.trans hgr
    replace yA := yA_.next hgr
    replace uA := uA_.next hgr
    clear hR_ yA_ uA_ hgr
    refine hx_store (i := 12) (oi := _) ((wo.drew.alloc (.cells #[.string ⟨#[]⟩, .string ⟨#[]⟩, .int .i64 0, .bool false, .string ⟨#[]⟩, .bool false, .string ⟨#[]⟩, .bool false, .string ⟨#[]⟩, .bool false, .string ⟨#[]⟩, .int .i64 0, .slice none 0 0] 41)).setRow wo.drew.heap.size #[.string ⟨y_s.toArray⟩, .string ⟨y_p.toArray⟩, .int .i64 y_n, .bool y_v0, .string ⟨y_l0.toArray⟩, .bool y_v1, .string ⟨y_l1.toArray⟩, .bool y_v2, .string ⟨y_l2.toArray⟩, .bool y_v3, .string ⟨y_l3.toArray⟩, .int .i64 y_c, .slice none 0 0]) rfl rfl (by kernel_rfl) (by kernel_rfl) (st_row rfl (by kernel_rfl) (by kernel_rfl) (by kernel_rfl) (by kernel_rfl) (by kernel_rfl) _ (heap_alloc_new _ _)) ⟨hR, yA, uA⟩ ?_
    refine wpAnyH_done (by kernel_rfl) ?_ _
    clear hns hQ
    simp only [List.set_cons_zero, List.set_cons_succ]
    have hC : Cel ((wo.drew.alloc (.cells #[.string ⟨#[]⟩, .string ⟨#[]⟩, .int .i64 0, .bool false, .string ⟨#[]⟩, .bool false, .string ⟨#[]⟩, .bool false, .string ⟨#[]⟩, .bool false, .string ⟨#[]⟩, .int .i64 0, .slice none 0 0] 41)).setRow wo.drew.heap.size #[.string ⟨y_s.toArray⟩, .string ⟨y_p.toArray⟩, .int .i64 y_n, .bool y_v0, .string ⟨y_l0.toArray⟩, .bool y_v1, .string ⟨y_l1.toArray⟩, .bool y_v2, .string ⟨y_l2.toArray⟩, .bool y_v3, .string ⟨y_l3.toArray⟩, .int .i64 y_c, .slice none 0 0]) wo.drew.heap.size #[.string ⟨y_s.toArray⟩, .string ⟨y_p.toArray⟩, .int .i64 y_n, .bool y_v0, .string ⟨y_l0.toArray⟩, .bool y_v1, .string ⟨y_l1.toArray⟩, .bool y_v2, .string ⟨y_l2.toArray⟩, .bool y_v3, .string ⟨y_l3.toArray⟩, .int .i64 y_c, .slice none 0 0] 41 := Cel.row (heap_alloc_new _ _) _
    have hge : wo.heap.size ≤ wo.drew.heap.size := (Since.refl wo).drew.size
    obtain ⟨w2', hw2⟩ : ∃ w2', Hid (((wo.drew.alloc (.cells #[.string ⟨#[]⟩, .string ⟨#[]⟩, .int .i64 0, .bool false, .string ⟨#[]⟩, .bool false, .string ⟨#[]⟩, .bool false, .string ⟨#[]⟩, .bool false, .string ⟨#[]⟩, .int .i64 0, .slice none 0 0] 41)).setRow wo.drew.heap.size #[.string ⟨y_s.toArray⟩, .string ⟨y_p.toArray⟩, .int .i64 y_n, .bool y_v0, .string ⟨y_l0.toArray⟩, .bool y_v1, .string ⟨y_l1.toArray⟩, .bool y_v2, .string ⟨y_l2.toArray⟩, .bool y_v3, .string ⟨y_l3.toArray⟩, .int .i64 y_c, .slice none 0 0]) = w2') := ⟨_, rfl⟩
    obtain ⟨g, hg⟩ : ∃ g, Hid (wo.drew.heap.size = g) := ⟨_, rfl⟩
    rw [hw2.out] at hR yA uA hC
    rw [hg.out] at hC hge
    rw [hw2.out, hg.out]
    have hX0 : XBx wo w2' g y_s y_p y_n y_v0 y_v1 y_v2 y_v3 y_l0 y_l1 y_l2 y_l3 y_c ((C.take 0).map (· + (T.length : Int))) := ⟨none, 0, hC, World.ownsRow_nil _ _ _ _, hge, hR⟩
    clear hw2 hg hC hR yA uA
    go_wp2_with fail
    go_loopw [19] (fun m wr => ∃ j : Nat, j ≤ C.length ∧ m = .int .i64 (j : Int) ∧ XBx wo wr g y_s y_p y_n y_v0 y_v1 y_v2 y_v3 y_l0 y_l1 y_l2 y_l3 y_c ((C.take j).map (· + (T.length : Int)))) (fun m _ => C.length - (intOf m).toNat)
    case atStart => exact ⟨0, by omega, rfl, hX0⟩
    case round =>
    rename World => wq
    clear hX0
    obtain ⟨j, hj, rfl, hXX⟩ := hrel
    have hR : Since wo wq := by obtain ⟨_, _, _, _, _, h⟩ := hXX; exact h
    have uE : wq.cell? ⟨bu, ou + i * 13 + 12, none⟩ = some (.slice ca C.length cc) := (uA0.next (hSo.trans hR)) 1 _ rfl
    by_cases hjt : j < C.length
    · have hjt2 : (j : Int) < (C.length : Int) := by omega
      have hjt0 : (0 : Int) ≤ (j : Int) := by omega
      go_wp2_with fail
      obtain ⟨bc, oc, ec, hcc, hct⟩ := HD4.out.get (by omega)
      have z1 := hct j hjt
      have hzi := hci _ (List.getElem_mem hjt)
      have hCk : Hid ((C.take j).map (· + (T.length : Int)) ++ [C[j] + (T.length : Int)] = (C.take (j + 1)).map (· + (T.length : Int))) := by show _ = _; rw [List.take_succ_eq_append_getElem hjt, List.map_append]; rfl
      have hDl : ((C.take j).map (· + (T.length : Int))).length = j := by rw [List.length_map, List.length_take]; omega
      obtain ⟨z, hz⟩ : ∃ z, Hid (z = C[j]) := ⟨C[j], rfl⟩
      obtain ⟨D, hD⟩ : ∃ D, Hid (D = (C.take j).map (· + (T.length : Int))) := ⟨_, rfl⟩
      rw [← hz.out] at z1 hzi hCk
      rw [← hD.out] at hXX hCk hDl
      have zA : At wo bc (oc + j) #[.int .i64 z] := (At.one (by simpa [IntAt] using z1)).next hSo
      have uA := uA0.next hSo
      have hzw : IntKind.i64.wrap (z + (T.length : Int)) = z + (T.length : Int) := IntWalk.i64_in _ (by omega)
      obtain ⟨ax, cx, hC, hO, hge, -⟩ := hXX
      subst ec
      clear hct z1 hz hD uE
      have hb0 : Since wo wq.drew := (hR).drew
      replace hC := hC.next ((Since.refl wq).drew)
      replace hO := own_since hO ((Since.refl wq).drew)
      refine hx_begin (S := fun W => Since wo W) (by kernel_rfl) hb0 (by kernel_rfl) (fun _ _ _ _ _ h => h) (fun hns hQ => ?_)
      refine hx_take (i := 0) (oi := _) (v := .pointer (some ⟨g, 12, none⟩)) rfl rfl hns (by kernel_rfl) (by kernel_rfl) hQ (by kernel_rfl) (fun _ _ => by kernel_rfl) hb0 ?_
      refine hx_take (i := 2) (oi := _) (v := .slice (some ⟨bu, ou, none⟩) U.length uc) rfl rfl hns (by kernel_rfl) (by kernel_rfl) hQ (by kernel_rfl) (fun _ _ => by kernel_rfl) hb0 ?_
      refine hx_take (i := 3) (oi := _) (v := .int .i64 (i : Int)) rfl rfl hns (by kernel_rfl) (by kernel_rfl) hQ (by kernel_rfl) (fun _ _ => by kernel_rfl) hb0 ?_
      refine hx_take (i := 4) (oi := _) (v := .pointer (some ⟨bu, ou + i * 13, none⟩)) rfl rfl hns (by kernel_rfl) (by kernel_rfl) hQ (by kernel_rfl) (fun W _ => ix_sl (n := U.length) (c := uc) (K := 13) rfl (by kernel_rfl) (by kernel_rfl) (by kernel_rfl) rfl hlt W) hb0 ?_
      refine hx_take (i := 5) (oi := _) (v := .pointer (some ⟨bu, ou + i * 13 + 12, none⟩)) rfl rfl hns (by kernel_rfl) (by kernel_rfl) hQ (by kernel_rfl) (fun _ _ => by kernel_rfl) hb0 ?_
      refine hx_take (i := 6) (oi := _) (v := .slice (some ⟨bc, oc, none⟩) C.length cc) rfl rfl hns (by kernel_rfl) (by kernel_rfl) hQ (by kernel_rfl) (fun W hW => ld_one rfl (by kernel_rfl) (by kernel_rfl) W (uA.next hW 1 _ rfl)) hb0 ?_
      refine hx_take (i := 7) (oi := _) (v := .int .i64 (j : Int)) rfl rfl hns (by kernel_rfl) (by kernel_rfl) hQ (by kernel_rfl) (fun _ _ => by kernel_rfl) hb0 ?_
      refine hx_take (i := 8) (oi := _) (v := .pointer (some ⟨bc, oc + j, none⟩)) rfl rfl hns (by kernel_rfl) (by kernel_rfl) hQ (by kernel_rfl) (fun W _ => ix_sl1 (n := C.length) (c := cc) rfl (by kernel_rfl) (by kernel_rfl) (by kernel_rfl) rfl hjt W) hb0 ?_
      refine hx_take (i := 9) (oi := _) (v := .int .i64 z) rfl rfl hns (by kernel_rfl) (by kernel_rfl) hQ (by kernel_rfl) (fun W hW => ld_one rfl (by kernel_rfl) (by kernel_rfl) W (zA.next hW 0 _ rfl)) hb0 ?_
      refine hx_take (i := 10) (oi := _) (v := .slice vs T.length tc) rfl rfl hns (by kernel_rfl) (by kernel_rfl) hQ (by kernel_rfl) (fun _ _ => by kernel_rfl) hb0 ?_
      refine hx_take (i := 11) (oi := _) (v := .int .i64 (T.length : Int)) rfl rfl hns (by kernel_rfl) (by kernel_rfl) hQ (by kernel_rfl) (fun _ _ => by kernel_rfl) hb0 ?_
      refine hx_take (i := 12) (oi := _) (v := .int .i64 (z + (T.length : Int))) rfl rfl hns (by kernel_rfl) (by kernel_rfl) hQ (by kernel_rfl) (fun W _ => add_ints rfl (by kernel_rfl) (by kernel_rfl) hzw W) hb0 ?_
      refine hx_two_vv (i := 1) (j := 13) (.slice ax D.length cx) (wq.drew) (.slice (some ⟨wq.drew.heap.size, 0, none⟩) 1 1) ((wq.drew.alloc (.cells #[.int .i64 (z + (T.length : Int))] 3))) rfl rfl (by kernel_rfl) (by kernel_rfl) (by kernel_rfl) rfl (ld_one rfl (by kernel_rfl) (by kernel_rfl) wq.drew (hC.cell 12)) hb0 rfl (by kernel_rfl) (hb0.alloc _) ?_ ?_
      · have hb1 : Since wo (wq.drew.alloc (.cells #[.int .i64 (z + (T.length : Int))] 3)) := hb0.alloc _
        replace hC := hC.next ((Since.refl wq.drew).alloc (.cells #[.int .i64 (z + (T.length : Int))] 3))
        replace hO := own_since hO ((Since.refl wq.drew).alloc (.cells #[.int .i64 (z + (T.length : Int))] 3))
        refine hx_make (i := 13) (oi := _) (.slice (some ⟨wq.drew.heap.size, 0, none⟩) 1 1) (wq.drew.alloc (.cells #[.int .i64 (z + (T.length : Int))] 3)) rfl rfl (by kernel_rfl) (by kernel_rfl) (by kernel_rfl) hb1 ?_
        refine hx_append (i := 14) (oi := _) (.tmp 101) (.tmp 113) 39 wo.heap.size 3 i3 (.int .i64 0) 1 8 (.slice ax D.length cx) D.length _ _ (some ⟨wq.drew.heap.size, 0, none⟩) 1 1 [.int .i64 (z + (T.length : Int))] rfl rfl (by kernel_rfl) (by kernel_rfl) rfl Tryd.underlying39 I3.out.1 I3.out.2.1 I3.out.2.2.1 I3.out.2.2.2 rfl (by decide) (by kernel_rfl) hO (by kernel_rfl) (reads_new _ #[.int .i64 (z + (T.length : Int))] _ 1 rfl) (by simp [Value.oneCell']) (by unfold maxLen; omega) (by omega) (hb1).size ?_
        intro v4 w4 hown4 hg4 hb4
        have hb2 : Since wo w4 := Below.grown hb1 hg4 (hb1).size (own_ge hO)
        obtain ⟨a4, c4, rfl⟩ := own_slice hown4
        replace hC := cel_own hC hO (by decide) hg4
        clear hO hg4 hb4
        refine ⟨hb2, ?_⟩
        refine hx_take (i := 15) (oi := _) (v := .pointer (some ⟨g, 12, none⟩)) rfl rfl hns (by kernel_rfl) (by kernel_rfl) hQ (by kernel_rfl) (fun _ _ => by kernel_rfl) hb2 ?_
        have hb3 : Since wo (w4.setCell ⟨g, 12, none⟩ (.slice a4 (D.length + 1) c4)) := hb2.setCell hge _
        refine hx_store (i := 16) (oi := _) (w4.setCell ⟨g, 12, none⟩ (.slice a4 (D.length + 1) c4)) rfl rfl (by kernel_rfl) (by kernel_rfl) (st_ints rfl (by kernel_rfl) (by kernel_rfl) _ hC rfl) hb3 ?_
        replace hown4 := own_setCell (j := 12) (u := .slice a4 (D.length + 1) c4) hown4 hC (by decide)
        replace hC := hC.set (j := 12) (u := .slice a4 (D.length + 1) c4) rfl
        refine wpAnyH_done (by kernel_rfl) ?_ _
        clear hns hQ
        simp only [List.set_cons_zero, List.set_cons_succ]
        have hl1 : (D ++ [z + (T.length : Int)]).length = D.length + 1 := by simp
        have hO5 : ((w4.setCell ⟨g, 12, none⟩ (.slice a4 (D.length + 1) c4))).ownsRow wo.heap.size 3 1 (.slice a4 (D.length + 1) c4) (D.length + 1) ((D ++ [z + (T.length : Int)]).flatMap intL) := by rw [List.flatMap_append]; exact hown4
        have hXX : XBx wo (w4.setCell ⟨g, 12, none⟩ (.slice a4 (D.length + 1) c4)) g y_s y_p y_n y_v0 y_v1 y_v2 y_v3 y_l0 y_l1 y_l2 y_l3 y_c ((C.take (j + 1)).map (· + (T.length : Int))) := by rw [← hCk.out]; exact ⟨a4, c4, by rw [hl1]; exact hC, by rw [hl1]; exact hO5, hge, hb3⟩
        clear hC hown4 hO5 hDl
        go_wp2_with fail
        go_roundw
        case rel => exact ⟨j + 1, by omega, by go_num, hXX⟩
        case measure => simp [intOf]; omega
      · have hb1 : Since wo (wq.drew.alloc (.cells #[.int .i64 (z + (T.length : Int))] 3)) := hb0.alloc _
        replace hC := hC.next ((Since.refl wq.drew).alloc (.cells #[.int .i64 (z + (T.length : Int))] 3))
        replace hO := own_since hO ((Since.refl wq.drew).alloc (.cells #[.int .i64 (z + (T.length : Int))] 3))
        refine hx_make (i := 1) (oi := _) (.slice ax D.length cx) ((wq.drew.alloc (.cells #[.int .i64 (z + (T.length : Int))] 3))) rfl rfl (by kernel_rfl) (by kernel_rfl) (ld_one rfl (by kernel_rfl) (by kernel_rfl) (wq.drew.alloc (.cells #[.int .i64 (z + (T.length : Int))] 3)) (hC.cell 12)) hb1 ?_
        refine hx_append (i := 14) (oi := _) (.tmp 101) (.tmp 113) 39 wo.heap.size 3 i3 (.int .i64 0) 1 8 (.slice ax D.length cx) D.length _ _ (some ⟨wq.drew.heap.size, 0, none⟩) 1 1 [.int .i64 (z + (T.length : Int))] rfl rfl (by kernel_rfl) (by kernel_rfl) rfl Tryd.underlying39 I3.out.1 I3.out.2.1 I3.out.2.2.1 I3.out.2.2.2 rfl (by decide) (by kernel_rfl) hO (by kernel_rfl) (reads_new _ #[.int .i64 (z + (T.length : Int))] _ 1 rfl) (by simp [Value.oneCell']) (by unfold maxLen; omega) (by omega) (hb1).size ?_
        intro v4 w4 hown4 hg4 hb4
        have hb2 : Since wo w4 := Below.grown hb1 hg4 (hb1).size (own_ge hO)
        obtain ⟨a4, c4, rfl⟩ := own_slice hown4
        replace hC := cel_own hC hO (by decide) hg4
        clear hO hg4 hb4
        refine ⟨hb2, ?_⟩
        refine hx_take (i := 15) (oi := _) (v := .pointer (some ⟨g, 12, none⟩)) rfl rfl hns (by kernel_rfl) (by kernel_rfl) hQ (by kernel_rfl) (fun _ _ => by kernel_rfl) hb2 ?_
        have hb3 : Since wo (w4.setCell ⟨g, 12, none⟩ (.slice a4 (D.length + 1) c4)) := hb2.setCell hge _
        refine hx_store (i := 16) (oi := _) (w4.setCell ⟨g, 12, none⟩ (.slice a4 (D.length + 1) c4)) rfl rfl (by kernel_rfl) (by kernel_rfl) (st_ints rfl (by kernel_rfl) (by kernel_rfl) _ hC rfl) hb3 ?_
        replace hown4 := own_setCell (j := 12) (u := .slice a4 (D.length + 1) c4) hown4 hC (by decide)
        replace hC := hC.set (j := 12) (u := .slice a4 (D.length + 1) c4) rfl
        refine wpAnyH_done (by kernel_rfl) ?_ _
        clear hns hQ
        simp only [List.set_cons_zero, List.set_cons_succ]
        have hl1 : (D ++ [z + (T.length : Int)]).length = D.length + 1 := by simp
        have hO5 : ((w4.setCell ⟨g, 12, none⟩ (.slice a4 (D.length + 1) c4))).ownsRow wo.heap.size 3 1 (.slice a4 (D.length + 1) c4) (D.length + 1) ((D ++ [z + (T.length : Int)]).flatMap intL) := by rw [List.flatMap_append]; exact hown4
        have hXX : XBx wo (w4.setCell ⟨g, 12, none⟩ (.slice a4 (D.length + 1) c4)) g y_s y_p y_n y_v0 y_v1 y_v2 y_v3 y_l0 y_l1 y_l2 y_l3 y_c ((C.take (j + 1)).map (· + (T.length : Int))) := by rw [← hCk.out]; exact ⟨a4, c4, by rw [hl1]; exact hC, by rw [hl1]; exact hO5, hge, hb3⟩
        clear hC hown4 hO5 hDl
        go_wp2_with fail
        go_roundw
        case rel => exact ⟨j + 1, by omega, by go_num, hXX⟩
        case measure => simp [intOf]; omega
    have hjt2 : ¬ (j : Int) < (C.length : Int) := by omega
    rw [List.take_of_length_le (by omega)] at hXX
    obtain ⟨D, hD⟩ : ∃ D, Hid (D = C.map (· + (T.length : Int))) := ⟨_, rfl⟩
    rw [← hD.out] at hXX
    go_wp2_with fail
    clear uE
    go_loopw [16, 20] (fun tw m wr => ∃ k : Nat, k ≤ T.length ∧ m = .int .i64 (k : Int) ∧ TwMid T U i ((y_s, y_p, y_n, (y_v0, y_l0), (y_v1, y_l1), (y_v2, y_l2), (y_v3, y_l3)) : Atm) k tw ∧ Since wq wr) (fun _ m _ => T.length - (intOf m).toNat)
    case atStart => exact ⟨0, by omega, rfl, hTw.mid _, Since.refl _⟩
    case round =>
    rename World => w3
    obtain ⟨k, hk, rfl, hTm, hS3⟩ := hrel
    rcases hTm with ⟨rfl, ht2, ht3⟩ | ⟨jj, hjj, rfl, ht2⟩
    · by_cases hkt : k < T.length
      · have hkt2 : (k : Int) < (T.length : Int) := by omega
        have hkt0 : (0 : Int) ≤ (k : Int) := by omega
        go_wp2_with fail
        obtain ⟨bt, ot, et, hct, hat⟩ := HT.out.get (by omega)
        have t1 := (hat k hkt).1
        obtain ⟨⟨z_s, z_p, z_n, ⟨z_v0, z_l0⟩, ⟨z_v1, z_l1⟩, ⟨z_v2, z_l2⟩, ⟨z_v3, z_l3⟩⟩, hz⟩ : ∃ x, Hid (x = (T[k]).1) := ⟨(T[k]).1, rfl⟩
        rw [← hz.out] at t1
        have tA0 : At w1 bt (ot + k * 13) #[.string ⟨z_s.toArray⟩, .string ⟨z_p.toArray⟩, .int .i64 z_n, .bool z_v0, .string ⟨z_l0.toArray⟩, .bool z_v1, .string ⟨z_l1.toArray⟩, .bool z_v2, .string ⟨z_l2.toArray⟩, .bool z_v3, .string ⟨z_l3.toArray⟩] := t1
        have tA := tA0.next ((hSo.trans hR).trans hS3)
        have hXk := hXX
        obtain ⟨ax, cx, hC, -, -, -⟩ := hXk
        have xA := (hC.next hS3).at
        subst et
        clear hat t1 tA0 hC
        cases hq : eqA ((z_s, z_p, z_n, (z_v0, z_l0), (z_v1, z_l1), (z_v2, z_l2), (z_v3, z_l3)) : Atm) ((y_s, y_p, y_n, (y_v0, y_l0), (y_v1, y_l1), (y_v2, y_l2), (y_v3, y_l3)) : Atm)
        case false =>
          have hTm2 : TwMid T U i ((y_s, y_p, y_n, (y_v0, y_l0), (y_v1, y_l1), (y_v2, y_l2), (y_v3, y_l3)) : Atm) (k + 1) (.int .i64 (-1)) := tw_no hkt ht2 ht3 (by rw [← hz.out]; exact hq)
          replace hS3 := hS3.trans ((Since.refl w3).drew)
          replace tA := tA.next ((Since.refl w3).drew)
          replace xA := xA.next ((Since.refl w3).drew)
          refine hx_begin (S := fun W => (Since wq W) ∧ (At W bt (ot + k * 13) #[.string ⟨z_s.toArray⟩, .string ⟨z_p.toArray⟩, .int .i64 z_n, .bool z_v0, .string ⟨z_l0.toArray⟩, .bool z_v1, .string ⟨z_l1.toArray⟩, .bool z_v2, .string ⟨z_l2.toArray⟩, .bool z_v3, .string ⟨z_l3.toArray⟩]) ∧ (At W g 0 #[.string ⟨y_s.toArray⟩, .string ⟨y_p.toArray⟩, .int .i64 y_n, .bool y_v0, .string ⟨y_l0.toArray⟩, .bool y_v1, .string ⟨y_l1.toArray⟩, .bool y_v2, .string ⟨y_l2.toArray⟩, .bool y_v3, .string ⟨y_l3.toArray⟩, .int .i64 y_c, .slice ax D.length cx])) (by kernel_rfl) ⟨hS3, tA, xA⟩ (by kernel_rfl) (fun _ _ _ _ _ h => h) (fun hns hQ => ?_)
          refine hx_take (i := 0) (oi := _) (v := .slice (some ⟨bt, ot, none⟩) T.length tc) rfl rfl hns (by kernel_rfl) (by kernel_rfl) hQ (by kernel_rfl) (fun _ _ => by kernel_rfl) ⟨hS3, tA, xA⟩ ?_
          refine hx_take (i := 1) (oi := _) (v := .int .i64 (k : Int)) rfl rfl hns (by kernel_rfl) (by kernel_rfl) hQ (by kernel_rfl) (fun _ _ => by kernel_rfl) ⟨hS3, tA, xA⟩ ?_
          refine hx_take (i := 2) (oi := _) (v := .pointer (some ⟨bt, ot + k * 13, none⟩)) rfl rfl hns (by kernel_rfl) (by kernel_rfl) hQ (by kernel_rfl) (fun W _ => ix_sl (n := T.length) (c := tc) (K := 13) rfl (by kernel_rfl) (by kernel_rfl) (by kernel_rfl) rfl hkt W) ⟨hS3, tA, xA⟩ ?_
          refine hx_take (i := 3) (oi := _) (v := .pointer (some ⟨bt, ot + k * 13, none⟩)) rfl rfl hns (by kernel_rfl) (by kernel_rfl) hQ (by kernel_rfl) (fun _ _ => by kernel_rfl) ⟨hS3, tA, xA⟩ ?_
          refine hx_take (i := 4) (oi := _) (v := .agg #[.string ⟨z_s.toArray⟩, .string ⟨z_p.toArray⟩, .int .i64 z_n, .bool z_v0, .string ⟨z_l0.toArray⟩, .bool z_v1, .string ⟨z_l1.toArray⟩, .bool z_v2, .string ⟨z_l2.toArray⟩, .bool z_v3, .string ⟨z_l3.toArray⟩]) rfl rfl hns (by kernel_rfl) (by kernel_rfl) hQ (by kernel_rfl) (fun W hW => ld_at rfl (by kernel_rfl) (by kernel_rfl) (by kernel_rfl) W (hW.2.1)) ⟨hS3, tA, xA⟩ ?_
          refine hx_take (i := 5) (oi := _) (v := .pointer (some ⟨g, 0, none⟩)) rfl rfl hns (by kernel_rfl) (by kernel_rfl) hQ (by kernel_rfl) (fun _ _ => by kernel_rfl) ⟨hS3, tA, xA⟩ ?_
          refine hx_take (i := 6) (oi := _) (v := .agg #[.string ⟨y_s.toArray⟩, .string ⟨y_p.toArray⟩, .int .i64 y_n, .bool y_v0, .string ⟨y_l0.toArray⟩, .bool y_v1, .string ⟨y_l1.toArray⟩, .bool y_v2, .string ⟨y_l2.toArray⟩, .bool y_v3, .string ⟨y_l3.toArray⟩]) rfl rfl hns (by kernel_rfl) (by kernel_rfl) hQ (by kernel_rfl) (fun W hW => ld_at rfl (by kernel_rfl) (by kernel_rfl) (by kernel_rfl) W (at_sub (hW.2.2) 0 11 rfl)) ⟨hS3, tA, xA⟩ ?_
          refine hx_take (i := 7) (oi := _) (v := .bool false) rfl rfl hns (by kernel_rfl) (by kernel_rfl) hQ (by kernel_rfl) (fun W _ => bin_val (eqg_atom z_s z_p z_n z_v0 z_v1 z_v2 z_v3 z_l0 z_l1 z_l2 z_l3 y_s y_p y_n y_v0 y_v1 y_v2 y_v3 y_l0 y_l1 y_l2 y_l3 rfl (by kernel_rfl) (by kernel_rfl) W) hq) ⟨hS3, tA, xA⟩ ?_
          refine wpAnyH_done (by kernel_rfl) ?_ _
          clear hns hQ
          simp only [List.set_cons_zero, List.set_cons_succ]
          clear tA xA
          go_wp2_with fail
          go_roundw
          case rel => exact ⟨k + 1, by omega, by go_num, hTm2, hS3⟩
          case measure => simp [intOf]; omega
        case true =>
          have hTm2 : TwMid T U i ((y_s, y_p, y_n, (y_v0, y_l0), (y_v1, y_l1), (y_v2, y_l2), (y_v3, y_l3)) : Atm) (k + 1) (.int .i64 (((T.length + i : Nat) : Int))) := tw_yes (s := (((y_s, y_p, y_n, (y_v0, y_l0), (y_v1, y_l1), (y_v2, y_l2), (y_v3, y_l3)) : Atm), y_c, C)) hkt hlt hy.out ht2 (by rw [← hz.out]; exact hq)
          replace hS3 := hS3.trans ((Since.refl w3).drew)
          replace tA := tA.next ((Since.refl w3).drew)
          replace xA := xA.next ((Since.refl w3).drew)
          refine hx_begin (S := fun W => (Since wq W) ∧ (At W bt (ot + k * 13) #[.string ⟨z_s.toArray⟩, .string ⟨z_p.toArray⟩, .int .i64 z_n, .bool z_v0, .string ⟨z_l0.toArray⟩, .bool z_v1, .string ⟨z_l1.toArray⟩, .bool z_v2, .string ⟨z_l2.toArray⟩, .bool z_v3, .string ⟨z_l3.toArray⟩]) ∧ (At W g 0 #[.string ⟨y_s.toArray⟩, .string ⟨y_p.toArray⟩, .int .i64 y_n, .bool y_v0, .string ⟨y_l0.toArray⟩, .bool y_v1, .string ⟨y_l1.toArray⟩, .bool y_v2, .string ⟨y_l2.toArray⟩, .bool y_v3, .string ⟨y_l3.toArray⟩, .int .i64 y_c, .slice ax D.length cx])) (by kernel_rfl) ⟨hS3, tA, xA⟩ (by kernel_rfl) (fun _ _ _ _ _ h => h) (fun hns hQ => ?_)
          refine hx_take (i := 0) (oi := _) (v := .slice (some ⟨bt, ot, none⟩) T.length tc) rfl rfl hns (by kernel_rfl) (by kernel_rfl) hQ (by kernel_rfl) (fun _ _ => by kernel_rfl) ⟨hS3, tA, xA⟩ ?_
          refine hx_take (i := 1) (oi := _) (v := .int .i64 (k : Int)) rfl rfl hns (by kernel_rfl) (by kernel_rfl) hQ (by kernel_rfl) (fun _ _ => by kernel_rfl) ⟨hS3, tA, xA⟩ ?_
          refine hx_take (i := 2) (oi := _) (v := .pointer (some ⟨bt, ot + k * 13, none⟩)) rfl rfl hns (by kernel_rfl) (by kernel_rfl) hQ (by kernel_rfl) (fun W _ => ix_sl (n := T.length) (c := tc) (K := 13) rfl (by kernel_rfl) (by kernel_rfl) (by kernel_rfl) rfl hkt W) ⟨hS3, tA, xA⟩ ?_
          refine hx_take (i := 3) (oi := _) (v := .pointer (some ⟨bt, ot + k * 13, none⟩)) rfl rfl hns (by kernel_rfl) (by kernel_rfl) hQ (by kernel_rfl) (fun _ _ => by kernel_rfl) ⟨hS3, tA, xA⟩ ?_
          refine hx_take (i := 4) (oi := _) (v := .agg #[.string ⟨z_s.toArray⟩, .string ⟨z_p.toArray⟩, .int .i64 z_n, .bool z_v0, .string ⟨z_l0.toArray⟩, .bool z_v1, .string ⟨z_l1.toArray⟩, .bool z_v2, .string ⟨z_l2.toArray⟩, .bool z_v3, .string ⟨z_l3.toArray⟩]) rfl rfl hns (by kernel_rfl) (by kernel_rfl) hQ (by kernel_rfl) (fun W hW => ld_at rfl (by kernel_rfl) (by kernel_rfl) (by kernel_rfl) W (hW.2.1)) ⟨hS3, tA, xA⟩ ?_
          refine hx_take (i := 5) (oi := _) (v := .pointer (some ⟨g, 0, none⟩)) rfl rfl hns (by kernel_rfl) (by kernel_rfl) hQ (by kernel_rfl) (fun _ _ => by kernel_rfl) ⟨hS3, tA, xA⟩ ?_
          refine hx_take (i := 6) (oi := _) (v := .agg #[.string ⟨y_s.toArray⟩, .string ⟨y_p.toArray⟩, .int .i64 y_n, .bool y_v0, .string ⟨y_l0.toArray⟩, .bool y_v1, .string ⟨y_l1.toArray⟩, .bool y_v2, .string ⟨y_l2.toArray⟩, .bool y_v3, .string ⟨y_l3.toArray⟩]) rfl rfl hns (by kernel_rfl) (by kernel_rfl) hQ (by kernel_rfl) (fun W hW => ld_at rfl (by kernel_rfl) (by kernel_rfl) (by kernel_rfl) W (at_sub (hW.2.2) 0 11 rfl)) ⟨hS3, tA, xA⟩ ?_
          refine hx_take (i := 7) (oi := _) (v := .bool true) rfl rfl hns (by kernel_rfl) (by kernel_rfl) hQ (by kernel_rfl) (fun W _ => bin_val (eqg_atom z_s z_p z_n z_v0 z_v1 z_v2 z_v3 z_l0 z_l1 z_l2 z_l3 y_s y_p y_n y_v0 y_v1 y_v2 y_v3 y_l0 y_l1 y_l2 y_l3 rfl (by kernel_rfl) (by kernel_rfl) W) hq) ⟨hS3, tA, xA⟩ ?_
          refine wpAnyH_done (by kernel_rfl) ?_ _
          clear hns hQ
          simp only [List.set_cons_zero, List.set_cons_succ]
          clear tA xA
          have hwi : wrap64 ((T.length : Int) + (i : Int)) = ((T.length + i : Nat) : Int) := by rw [IntWalk.wrap64_in _ (by omega)]; omega
          clear hwi
          rw [Int.natCast_add] at hTm2
          go_wp2_with fail
          go_roundw
          case rel => exact ⟨k + 1, by omega, by go_num, hTm2, hS3⟩
          case measure => simp [intOf]; omega
      · have hkt2 : ¬ (k : Int) < (T.length : Int) := by omega
        have hTn : TwOk T U (i + 1) (.int .i64 (-1)) := by
          refine tw_end (s := (((y_s, y_p, y_n, (y_v0, y_l0), (y_v1, y_l1), (y_v2, y_l2), (y_v3, y_l3)) : Atm), y_c, C)) hlt hy.out (.inl ⟨rfl, ht2, ?_⟩)
          rw [show k = T.length by omega] at ht3
          exact ht3
        obtain ⟨ax, cx, hC, hO, hge, -⟩ := hXX
        have hC3 := hC.next hS3
        have hO3 := own_since hO hS3
        have hS13 : Since wo w3 := hR.trans hS3
        obtain ⟨N, eN, hN, hB1, hB2, -⟩ := hJ
        have hLT : ∀ p ∈ N, ∀ b, p.2.ownBlock = some b → b < wo.heap.size := fun p hp b hb => ((hN.ins p hp).lt b hb).2
        have hN3 := hN.next (hS13.alloc (.cells #[.string ⟨y_s.toArray⟩, .string ⟨y_p.toArray⟩, .int .i64 y_n, .bool y_v0, .string ⟨y_l0.toArray⟩, .bool y_v1, .string ⟨y_l1.toArray⟩, .bool y_v2, .string ⟨y_l2.toArray⟩, .bool y_v3, .string ⟨y_l3.toArray⟩, .int .i64 y_c, .slice ax D.length cx] 41))
        have hO4 := own_since hO3 ((Since.refl w3).alloc (.cells #[.string ⟨y_s.toArray⟩, .string ⟨y_p.toArray⟩, .int .i64 y_n, .bool y_v0, .string ⟨y_l0.toArray⟩, .bool y_v1, .string ⟨y_l1.toArray⟩, .bool y_v2, .string ⟨y_l2.toArray⟩, .bool y_v3, .string ⟨y_l3.toArray⟩, .int .i64 y_c, .slice ax D.length cx] 41))
        obtain ⟨av, cv, rfl⟩ := own_slice hN.row
        have hNl : N.length ≤ 1000 := by
          have h := congrArg List.length eN
          unfold bothS at h
          rw [List.length_map, List.length_append, List.length_map, List.length_take] at h
          omega
        have q0 : w3.cell? ⟨g, 0, none⟩ = some (.string ⟨y_s.toArray⟩) := hC3.cell 0
        have q1 : w3.cell? ⟨g, 1, none⟩ = some (.string ⟨y_p.toArray⟩) := hC3.cell 1
        have q2 : w3.cell? ⟨g, 2, none⟩ = some (.int .i64 y_n) := hC3.cell 2
        have q3 : w3.cell? ⟨g, 3, none⟩ = some (.bool y_v0) := hC3.cell 3
        have q4 : w3.cell? ⟨g, 4, none⟩ = some (.string ⟨y_l0.toArray⟩) := hC3.cell 4
        have q5 : w3.cell? ⟨g, 5, none⟩ = some (.bool y_v1) := hC3.cell 5
        have q6 : w3.cell? ⟨g, 6, none⟩ = some (.string ⟨y_l1.toArray⟩) := hC3.cell 6
        have q7 : w3.cell? ⟨g, 7, none⟩ = some (.bool y_v2) := hC3.cell 7
        have q8 : w3.cell? ⟨g, 8, none⟩ = some (.string ⟨y_l2.toArray⟩) := hC3.cell 8
        have q9 : w3.cell? ⟨g, 9, none⟩ = some (.bool y_v3) := hC3.cell 9
        have q10 : w3.cell? ⟨g, 10, none⟩ = some (.string ⟨y_l3.toArray⟩) := hC3.cell 10
        have q11 : w3.cell? ⟨g, 11, none⟩ = some (.int .i64 y_c) := hC3.cell 11
        have q12 : w3.cell? ⟨g, 12, none⟩ = some (.slice ax D.length cx) := hC3.cell 12
        clear hC hO hN hC3
        go_wp2_with (at_builtin; refine wpList_append_any _ rfl (.tmp 138) (.tmp 140) 24 rfl B0 41 i2 (.agg #[.string ByteArray.empty, .string ByteArray.empty, .int .i64 0, .bool false, .string ByteArray.empty, .bool false, .string ByteArray.empty, .bool false, .string ByteArray.empty, .bool false, .string ByteArray.empty, .int .i64 0, .slice none 0 0]) 13 168 Tryd.underlying24 I2.out.1 I2.out.2.1 I2.out.2.2.1 I2.out.2.2.2 rfl (by decide) _ N.length _ rfl hN3.row _ _ 1 1 (#[.string ⟨y_s.toArray⟩, .string ⟨y_p.toArray⟩, .int .i64 y_n, .bool y_v0, .string ⟨y_l0.toArray⟩, .bool y_v1, .string ⟨y_l1.toArray⟩, .bool y_v2, .string ⟨y_l2.toArray⟩, .bool y_v3, .string ⟨y_l3.toArray⟩, .int .i64 y_c, .slice ax D.length cx] : Array Value).toList rfl (reads_new w3 #[.string ⟨y_s.toArray⟩, .string ⟨y_p.toArray⟩, .int .i64 y_n, .bool y_v0, .string ⟨y_l0.toArray⟩, .bool y_v1, .string ⟨y_l1.toArray⟩, .bool y_v2, .string ⟨y_l2.toArray⟩, .bool y_v3, .string ⟨y_l3.toArray⟩, .int .i64 y_c, .slice ax D.length cx] 41 13 rfl) ?c1 ?c2 ?c3 ?c4 ?_)
        case c1 => simp [Value.oneCell']
        case c2 => unfold maxLen; omega
        case c3 => omega
        case c4 => (have h5 := Nat.le_trans hB2 hS13.size; first | omega | (simp; omega))
        intro v' w' hown hgrow _
        have hSw : Since w1 w' := Below.grown (hSo.trans (hS13.alloc _)) hgrow (hSo.trans (hS13.alloc (.cells #[.string ⟨y_s.toArray⟩, .string ⟨y_p.toArray⟩, .int .i64 y_n, .bool y_v0, .string ⟨y_l0.toArray⟩, .bool y_v1, .string ⟨y_l1.toArray⟩, .bool y_v2, .string ⟨y_l2.toArray⟩, .bool y_v3, .string ⟨y_l3.toArray⟩, .int .i64 y_c, .slice ax D.length cx] 41))).size (own_ge (own_base hN3.row hB1))
        have hN4 := hN3.push (x := (((y_s, y_p, y_n, (y_v0, y_l0), (y_v1, y_l1), (y_v2, y_l2), (y_v3, y_l3)) : Atm), y_c, D)) hLT hO4 hB2 hown rfl hgrow (by decide)
        have eX : (N ++ [((((y_s, y_p, y_n, (y_v0, y_l0), (y_v1, y_l1), (y_v2, y_l2), (y_v3, y_l3)) : Atm), y_c, D), Value.slice ax D.length cx)]).map Prod.fst = bothS T (U.take (i + 1)) := by
          rw [List.map_append, eN, hD.out, ← both_more T U i hlt, ← hy.out]; rfl
        have hJ2 : JSt w1 w' B0 v' T U (i + 1) := ⟨_, eX, hN4, hB1, Nat.le_trans hB2 (Nat.le_trans hS13.size (World.grownBy.size hgrow |> Nat.le_trans (by simp))), hSw⟩
        clear hown hgrow hN4 hN3 hO4 hO3 q0 q1 q2 q3 q4 q5 q6 q7 q8 q9 q10 q11 q12
        go_wp2_with fail
        go_roundw
        case rel => exact ⟨i + 1, by omega, by go_num, hTn, hJ2⟩
        case measure => simp [intOf]; omega
    · have htp : ¬ ((T.length + jj : Nat) : Int) < 0 := by omega
      have hTn : TwOk T U (i + 1) (.int .i64 (((T.length + jj : Nat) : Int))) := .inr ⟨jj, hjj, rfl, ht2⟩
      by_cases hkt : k < T.length
      · have hkt2 : (k : Int) < (T.length : Int) := by omega
        obtain ⟨ax, cx, hC, hO, hge, -⟩ := hXX
        have hC3 := hC.next hS3
        have hO3 := own_since hO hS3
        have hS13 : Since wo w3 := hR.trans hS3
        obtain ⟨N, eN, hN, hB1, hB2, -⟩ := hJ
        have hLT : ∀ p ∈ N, ∀ b, p.2.ownBlock = some b → b < wo.heap.size := fun p hp b hb => ((hN.ins p hp).lt b hb).2
        have hN3 := hN.next (hS13.alloc (.cells #[.string ⟨y_s.toArray⟩, .string ⟨y_p.toArray⟩, .int .i64 y_n, .bool y_v0, .string ⟨y_l0.toArray⟩, .bool y_v1, .string ⟨y_l1.toArray⟩, .bool y_v2, .string ⟨y_l2.toArray⟩, .bool y_v3, .string ⟨y_l3.toArray⟩, .int .i64 y_c, .slice ax D.length cx] 41))
        have hO4 := own_since hO3 ((Since.refl w3).alloc (.cells #[.string ⟨y_s.toArray⟩, .string ⟨y_p.toArray⟩, .int .i64 y_n, .bool y_v0, .string ⟨y_l0.toArray⟩, .bool y_v1, .string ⟨y_l1.toArray⟩, .bool y_v2, .string ⟨y_l2.toArray⟩, .bool y_v3, .string ⟨y_l3.toArray⟩, .int .i64 y_c, .slice ax D.length cx] 41))
        obtain ⟨av, cv, rfl⟩ := own_slice hN.row
        have hNl : N.length ≤ 1000 := by
          have h := congrArg List.length eN
          unfold bothS at h
          rw [List.length_map, List.length_append, List.length_map, List.length_take] at h
          omega
        have q0 : w3.cell? ⟨g, 0, none⟩ = some (.string ⟨y_s.toArray⟩) := hC3.cell 0
        have q1 : w3.cell? ⟨g, 1, none⟩ = some (.string ⟨y_p.toArray⟩) := hC3.cell 1
        have q2 : w3.cell? ⟨g, 2, none⟩ = some (.int .i64 y_n) := hC3.cell 2
        have q3 : w3.cell? ⟨g, 3, none⟩ = some (.bool y_v0) := hC3.cell 3
        have q4 : w3.cell? ⟨g, 4, none⟩ = some (.string ⟨y_l0.toArray⟩) := hC3.cell 4
        have q5 : w3.cell? ⟨g, 5, none⟩ = some (.bool y_v1) := hC3.cell 5
        have q6 : w3.cell? ⟨g, 6, none⟩ = some (.string ⟨y_l1.toArray⟩) := hC3.cell 6
        have q7 : w3.cell? ⟨g, 7, none⟩ = some (.bool y_v2) := hC3.cell 7
        have q8 : w3.cell? ⟨g, 8, none⟩ = some (.string ⟨y_l2.toArray⟩) := hC3.cell 8
        have q9 : w3.cell? ⟨g, 9, none⟩ = some (.bool y_v3) := hC3.cell 9
        have q10 : w3.cell? ⟨g, 10, none⟩ = some (.string ⟨y_l3.toArray⟩) := hC3.cell 10
        have q11 : w3.cell? ⟨g, 11, none⟩ = some (.int .i64 y_c) := hC3.cell 11
        have q12 : w3.cell? ⟨g, 12, none⟩ = some (.slice ax D.length cx) := hC3.cell 12
        clear hC hO hN hC3
        go_wp2_with (at_builtin; refine wpList_append_any _ rfl (.tmp 138) (.tmp 140) 24 rfl B0 41 i2 (.agg #[.string ByteArray.empty, .string ByteArray.empty, .int .i64 0, .bool false, .string ByteArray.empty, .bool false, .string ByteArray.empty, .bool false, .string ByteArray.empty, .bool false, .string ByteArray.empty, .int .i64 0, .slice none 0 0]) 13 168 Tryd.underlying24 I2.out.1 I2.out.2.1 I2.out.2.2.1 I2.out.2.2.2 rfl (by decide) _ N.length _ rfl hN3.row _ _ 1 1 (#[.string ⟨y_s.toArray⟩, .string ⟨y_p.toArray⟩, .int .i64 y_n, .bool y_v0, .string ⟨y_l0.toArray⟩, .bool y_v1, .string ⟨y_l1.toArray⟩, .bool y_v2, .string ⟨y_l2.toArray⟩, .bool y_v3, .string ⟨y_l3.toArray⟩, .int .i64 y_c, .slice ax D.length cx] : Array Value).toList rfl (reads_new w3 #[.string ⟨y_s.toArray⟩, .string ⟨y_p.toArray⟩, .int .i64 y_n, .bool y_v0, .string ⟨y_l0.toArray⟩, .bool y_v1, .string ⟨y_l1.toArray⟩, .bool y_v2, .string ⟨y_l2.toArray⟩, .bool y_v3, .string ⟨y_l3.toArray⟩, .int .i64 y_c, .slice ax D.length cx] 41 13 rfl) ?c1 ?c2 ?c3 ?c4 ?_)
        case c1 => simp [Value.oneCell']
        case c2 => unfold maxLen; omega
        case c3 => omega
        case c4 => (have h5 := Nat.le_trans hB2 hS13.size; first | omega | (simp; omega))
        intro v' w' hown hgrow _
        have hSw : Since w1 w' := Below.grown (hSo.trans (hS13.alloc _)) hgrow (hSo.trans (hS13.alloc (.cells #[.string ⟨y_s.toArray⟩, .string ⟨y_p.toArray⟩, .int .i64 y_n, .bool y_v0, .string ⟨y_l0.toArray⟩, .bool y_v1, .string ⟨y_l1.toArray⟩, .bool y_v2, .string ⟨y_l2.toArray⟩, .bool y_v3, .string ⟨y_l3.toArray⟩, .int .i64 y_c, .slice ax D.length cx] 41))).size (own_ge (own_base hN3.row hB1))
        have hN4 := hN3.push (x := (((y_s, y_p, y_n, (y_v0, y_l0), (y_v1, y_l1), (y_v2, y_l2), (y_v3, y_l3)) : Atm), y_c, D)) hLT hO4 hB2 hown rfl hgrow (by decide)
        have eX : (N ++ [((((y_s, y_p, y_n, (y_v0, y_l0), (y_v1, y_l1), (y_v2, y_l2), (y_v3, y_l3)) : Atm), y_c, D), Value.slice ax D.length cx)]).map Prod.fst = bothS T (U.take (i + 1)) := by
          rw [List.map_append, eN, hD.out, ← both_more T U i hlt, ← hy.out]; rfl
        have hJ2 : JSt w1 w' B0 v' T U (i + 1) := ⟨_, eX, hN4, hB1, Nat.le_trans hB2 (Nat.le_trans hS13.size (World.grownBy.size hgrow |> Nat.le_trans (by simp))), hSw⟩
        clear hown hgrow hN4 hN3 hO4 hO3 q0 q1 q2 q3 q4 q5 q6 q7 q8 q9 q10 q11 q12
        go_wp2_with fail
        go_roundw
        case rel => exact ⟨i + 1, by omega, by go_num, hTn, hJ2⟩
        case measure => simp [intOf]; omega
      · have hkt2 : ¬ (k : Int) < (T.length : Int) := by omega
        obtain ⟨ax, cx, hC, hO, hge, -⟩ := hXX
        have hC3 := hC.next hS3
        have hO3 := own_since hO hS3
        have hS13 : Since wo w3 := hR.trans hS3
        obtain ⟨N, eN, hN, hB1, hB2, -⟩ := hJ
        have hLT : ∀ p ∈ N, ∀ b, p.2.ownBlock = some b → b < wo.heap.size := fun p hp b hb => ((hN.ins p hp).lt b hb).2
        have hN3 := hN.next (hS13.alloc (.cells #[.string ⟨y_s.toArray⟩, .string ⟨y_p.toArray⟩, .int .i64 y_n, .bool y_v0, .string ⟨y_l0.toArray⟩, .bool y_v1, .string ⟨y_l1.toArray⟩, .bool y_v2, .string ⟨y_l2.toArray⟩, .bool y_v3, .string ⟨y_l3.toArray⟩, .int .i64 y_c, .slice ax D.length cx] 41))
        have hO4 := own_since hO3 ((Since.refl w3).alloc (.cells #[.string ⟨y_s.toArray⟩, .string ⟨y_p.toArray⟩, .int .i64 y_n, .bool y_v0, .string ⟨y_l0.toArray⟩, .bool y_v1, .string ⟨y_l1.toArray⟩, .bool y_v2, .string ⟨y_l2.toArray⟩, .bool y_v3, .string ⟨y_l3.toArray⟩, .int .i64 y_c, .slice ax D.length cx] 41))
        obtain ⟨av, cv, rfl⟩ := own_slice hN.row
        have hNl : N.length ≤ 1000 := by
          have h := congrArg List.length eN
          unfold bothS at h
          rw [List.length_map, List.length_append, List.length_map, List.length_take] at h
          omega
        have q0 : w3.cell? ⟨g, 0, none⟩ = some (.string ⟨y_s.toArray⟩) := hC3.cell 0
        have q1 : w3.cell? ⟨g, 1, none⟩ = some (.string ⟨y_p.toArray⟩) := hC3.cell 1
        have q2 : w3.cell? ⟨g, 2, none⟩ = some (.int .i64 y_n) := hC3.cell 2
        have q3 : w3.cell? ⟨g, 3, none⟩ = some (.bool y_v0) := hC3.cell 3
        have q4 : w3.cell? ⟨g, 4, none⟩ = some (.string ⟨y_l0.toArray⟩) := hC3.cell 4
        have q5 : w3.cell? ⟨g, 5, none⟩ = some (.bool y_v1) := hC3.cell 5
        have q6 : w3.cell? ⟨g, 6, none⟩ = some (.string ⟨y_l1.toArray⟩) := hC3.cell 6
        have q7 : w3.cell? ⟨g, 7, none⟩ = some (.bool y_v2) := hC3.cell 7
        have q8 : w3.cell? ⟨g, 8, none⟩ = some (.string ⟨y_l2.toArray⟩) := hC3.cell 8
        have q9 : w3.cell? ⟨g, 9, none⟩ = some (.bool y_v3) := hC3.cell 9
        have q10 : w3.cell? ⟨g, 10, none⟩ = some (.string ⟨y_l3.toArray⟩) := hC3.cell 10
        have q11 : w3.cell? ⟨g, 11, none⟩ = some (.int .i64 y_c) := hC3.cell 11
        have q12 : w3.cell? ⟨g, 12, none⟩ = some (.slice ax D.length cx) := hC3.cell 12
        clear hC hO hN hC3
        go_wp2_with (at_builtin; refine wpList_append_any _ rfl (.tmp 138) (.tmp 140) 24 rfl B0 41 i2 (.agg #[.string ByteArray.empty, .string ByteArray.empty, .int .i64 0, .bool false, .string ByteArray.empty, .bool false, .string ByteArray.empty, .bool false, .string ByteArray.empty, .bool false, .string ByteArray.empty, .int .i64 0, .slice none 0 0]) 13 168 Tryd.underlying24 I2.out.1 I2.out.2.1 I2.out.2.2.1 I2.out.2.2.2 rfl (by decide) _ N.length _ rfl hN3.row _ _ 1 1 (#[.string ⟨y_s.toArray⟩, .string ⟨y_p.toArray⟩, .int .i64 y_n, .bool y_v0, .string ⟨y_l0.toArray⟩, .bool y_v1, .string ⟨y_l1.toArray⟩, .bool y_v2, .string ⟨y_l2.toArray⟩, .bool y_v3, .string ⟨y_l3.toArray⟩, .int .i64 y_c, .slice ax D.length cx] : Array Value).toList rfl (reads_new w3 #[.string ⟨y_s.toArray⟩, .string ⟨y_p.toArray⟩, .int .i64 y_n, .bool y_v0, .string ⟨y_l0.toArray⟩, .bool y_v1, .string ⟨y_l1.toArray⟩, .bool y_v2, .string ⟨y_l2.toArray⟩, .bool y_v3, .string ⟨y_l3.toArray⟩, .int .i64 y_c, .slice ax D.length cx] 41 13 rfl) ?c1 ?c2 ?c3 ?c4 ?_)
        case c1 => simp [Value.oneCell']
        case c2 => unfold maxLen; omega
        case c3 => omega
        case c4 => (have h5 := Nat.le_trans hB2 hS13.size; first | omega | (simp; omega))
        intro v' w' hown hgrow _
        have hSw : Since w1 w' := Below.grown (hSo.trans (hS13.alloc _)) hgrow (hSo.trans (hS13.alloc (.cells #[.string ⟨y_s.toArray⟩, .string ⟨y_p.toArray⟩, .int .i64 y_n, .bool y_v0, .string ⟨y_l0.toArray⟩, .bool y_v1, .string ⟨y_l1.toArray⟩, .bool y_v2, .string ⟨y_l2.toArray⟩, .bool y_v3, .string ⟨y_l3.toArray⟩, .int .i64 y_c, .slice ax D.length cx] 41))).size (own_ge (own_base hN3.row hB1))
        have hN4 := hN3.push (x := (((y_s, y_p, y_n, (y_v0, y_l0), (y_v1, y_l1), (y_v2, y_l2), (y_v3, y_l3)) : Atm), y_c, D)) hLT hO4 hB2 hown rfl hgrow (by decide)
        have eX : (N ++ [((((y_s, y_p, y_n, (y_v0, y_l0), (y_v1, y_l1), (y_v2, y_l2), (y_v3, y_l3)) : Atm), y_c, D), Value.slice ax D.length cx)]).map Prod.fst = bothS T (U.take (i + 1)) := by
          rw [List.map_append, eN, hD.out, ← both_more T U i hlt, ← hy.out]; rfl
        have hJ2 : JSt w1 w' B0 v' T U (i + 1) := ⟨_, eX, hN4, hB1, Nat.le_trans hB2 (Nat.le_trans hS13.size (World.grownBy.size hgrow |> Nat.le_trans (by simp))), hSw⟩
        clear hown hgrow hN4 hN3 hO4 hO3 q0 q1 q2 q3 q4 q5 q6 q7 q8 q9 q10 q11 q12
        go_wp2_with fail
        go_roundw
        case rel => exact ⟨i + 1, by omega, by go_num, hTn, hJ2⟩
        case measure => simp [intOf]; omega
  have hlt2 : ¬ (i : Int) < (U.length : Int) := by omega
  have hii : i = U.length := by omega
  subst hii
  obtain ⟨N, eN, hN, hB1, hB2, -⟩ := hJ
  rw [List.take_of_length_le (Nat.le_refl _)] at eN
  go_wp2_with fail
  have hSo2 := hSo
  generalize wo = wr at *
  have hKN := nest_srow hN
  rw [eN] at hKN
  have hNl2 : N.length = (bothS T U).length := by rw [← eN, List.length_map]
  have hlb : (bothS T U).length = T.length + U.length := by unfold bothS; rw [List.length_append, List.length_map]
  obtain ⟨av, cv, rfl⟩ := own_slice hN.row
  have HSr := Lib.hid hKN
  have HVr := Lib.hid (rnext HV.out hSo2)
  have HGr := Lib.hid (anext HG.out hSo2)
  have HXr := Lib.hid (anext HX.out hSo2)
  have HEr := Lib.hid (HE.out.next hSo2)
  have xA := ha0.next hSo2
  have hbL : L.length ≤ 1000000 := by omega
  have hbC : ∀ t ∈ L, t.2.length ≤ 1000000 := fun t h => by have := l3 t h; omega
  have hbG : G.length ≤ 1000000 := by omega
  have HOX : Hid (∀ u ∈ (#[.string ⟨x_s.toArray⟩, .string ⟨x_p.toArray⟩, .int .i64 x_n, .bool x_v0, .string ⟨x_l0.toArray⟩, .bool x_v1, .string ⟨x_l1.toArray⟩, .bool x_v2, .string ⟨x_l2.toArray⟩, .bool x_v3, .string ⟨x_l3.toArray⟩, .slice xa X.length xc] : Array Value).toList, u.oneCell' = true) := by show ∀ u ∈ _, _; simp [Value.oneCell']
  obtain ⟨z1, z2, hz⟩ : ∃ x y, Hid ((x, y) = soundS (L ++ [(((x_s, x_p, x_n, (x_v0, x_l0), (x_v1, x_l1), (x_v2, x_l2), (x_v3, x_l3)) : Atm), X)]) (G ++ G) (bothS T U)) := ⟨_, _, rfl⟩
  have HSND : Hid (∀ W (h : Since wr W) ak n ck ag m cg, RRow W (.slice ak n ck) (L ++ [(((x_s, x_p, x_n, (x_v0, x_l0), (x_v1, x_l1), (x_v2, x_l2), (x_v3, x_l3)) : Atm), X)]) → ARow W (.slice ag m cg) (G ++ G) → Calls Tryd.prog 10 #[.slice ak n ck, .slice ag m cg, .slice av N.length cv] W fun e w' => e = .returned (.tuple #[.int .i64 z1, .int .i64 z2]) ∧ Since W w') := by
    intro W h ak n ck ag m cg h1 h2
    have e1 := h1.form
    have e2 := h2.form
    subst e1
    subst e2
    rw [hNl2]
    have h3 := ksound_main ak ck (L ++ [(((x_s, x_p, x_n, (x_v0, x_l0), (x_v1, x_l1), (x_v2, x_l2), (x_v3, x_l3)) : Atm), X)]) ag cg (G ++ G) av cv (bothS T U) W h1 h2 (by rw [← hNl2]; exact snext HSr.out h) (by rw [List.length_append]; simp; omega) (by rw [List.length_append]; omega) (by omega)
      (fun c h => by
        rcases List.mem_append.1 h with h | h
        · exact hL9 c h
        · obtain rfl := List.mem_singleton.1 h; show X.length ≤ 100; omega)
      (fun c h => by
        rcases List.mem_append.1 h with h | h
        · exact HFL.out c h
        · obtain rfl := List.mem_singleton.1 h; exact HFX.out)
      (fun a h => by
        rcases List.mem_append.1 h with h | h
        · exact HFG.out a h
        · exact HFG.out a h)
      (fun t h => by
        unfold bothS at h
        rcases List.mem_append.1 h with h | h
        · exact hT2 t h
        · obtain ⟨s, hs, rfl⟩ := List.mem_map.1 h
          have := hU2 s hs
          refine ⟨this.1, ?_⟩
          show (s.2.2.map _).length ≤ _
          rw [List.length_map]; exact this.2)
      (HEr.out.next h)
    rw [← hz.out] at h3
    exact h3
  clear hKN hN hNl2
  go_cut [21, 22] from 142 to 155 (fun s r W => s = .int .i64 z1 ∧ r = .int .i64 z2 ∧ Since wr W)
  case first =>
    have hc0 : Since wr wr.drew := (Since.refl _).drew
    refine hx_begin (S := fun W => Since wr W) (by kernel_rfl) hc0 (by kernel_rfl) (fun _ _ _ _ _ h => h) (fun hns hQ => ?_)
    refine hx_take (i := 0) (oi := _) (v := .slice va L.length lc) rfl rfl hns (by kernel_rfl) (by kernel_rfl) hQ (by kernel_rfl) (fun _ _ => by kernel_rfl) hc0 ?_
    refine hx_take (i := 2) (oi := _) (v := .agg #[.string ⟨x_s.toArray⟩, .string ⟨x_p.toArray⟩, .int .i64 x_n, .bool x_v0, .string ⟨x_l0.toArray⟩, .bool x_v1, .string ⟨x_l1.toArray⟩, .bool x_v2, .string ⟨x_l2.toArray⟩, .bool x_v3, .string ⟨x_l3.toArray⟩, .slice xa X.length xc]) rfl rfl hns (by kernel_rfl) (by kernel_rfl) hQ (by kernel_rfl) (fun W hW => ld_at rfl (by kernel_rfl) (by kernel_rfl) (by kernel_rfl) W (xA.next hW)) hc0 ?_
    refine hx_take (i := 5) (oi := _) (v := .slice vf G.length fc) rfl rfl hns (by kernel_rfl) (by kernel_rfl) hQ (by kernel_rfl) (fun _ _ => by kernel_rfl) hc0 ?_
    refine hx_take (i := 7) (oi := _) (v := .slice vf G.length fc) rfl rfl hns (by kernel_rfl) (by kernel_rfl) hQ (by kernel_rfl) (fun _ _ => by kernel_rfl) hc0 ?_
    refine hx_take (i := 9) (oi := _) (v := .slice av N.length cv) rfl rfl hns (by kernel_rfl) (by kernel_rfl) hQ (by kernel_rfl) (fun _ _ => by kernel_rfl) hc0 ?_
    refine hx_two_cv (i := 1) (j := 3) 12 #[.slice va L.length lc] (.slice (some ⟨wr.drew.heap.size, 0, none⟩) 1 1) ((wr.drew.alloc (.cells #[.string ⟨x_s.toArray⟩, .string ⟨x_p.toArray⟩, .int .i64 x_n, .bool x_v0, .string ⟨x_l0.toArray⟩, .bool x_v1, .string ⟨x_l1.toArray⟩, .bool x_v2, .string ⟨x_l2.toArray⟩, .bool x_v3, .string ⟨x_l3.toArray⟩, .slice xa X.length xc] 31))) rfl rfl (by kernel_rfl) (by kernel_rfl) (by kernel_rfl) rfl (by kernel_rfl) (ownclauses_any _ L _ (rnext HVr.out hc0) hbL hbC) rfl (by kernel_rfl) (hc0.alloc _) ?_ ?_
    · rintro e wx91 ⟨vk, rfl, K, eK, hK, hb⟩
      have hc1 : Since wr wx91 := hc0.trans hb
      obtain ⟨ak, ck, rfl⟩ := own_slice hK.row
      have hKl : K.length = L.length := by rw [← eK, List.length_map]
      replace hK := hK.base (hc0).size
      clear hb
      refine ⟨_, rfl, hc1, ?_⟩
      have hc2 : Since wr (wx91.alloc (.cells #[.string ⟨x_s.toArray⟩, .string ⟨x_p.toArray⟩, .int .i64 x_n, .bool x_v0, .string ⟨x_l0.toArray⟩, .bool x_v1, .string ⟨x_l1.toArray⟩, .bool x_v2, .string ⟨x_l2.toArray⟩, .bool x_v3, .string ⟨x_l3.toArray⟩, .slice xa X.length xc] 31)) := hc1.alloc _
      replace hK := hK.next ((Since.refl wx91).alloc (.cells #[.string ⟨x_s.toArray⟩, .string ⟨x_p.toArray⟩, .int .i64 x_n, .bool x_v0, .string ⟨x_l0.toArray⟩, .bool x_v1, .string ⟨x_l1.toArray⟩, .bool x_v2, .string ⟨x_l2.toArray⟩, .bool x_v3, .string ⟨x_l3.toArray⟩, .slice xa X.length xc] 31))
      refine hx_make (i := 3) (oi := _) (.slice (some ⟨wx91.heap.size, 0, none⟩) 1 1) (wx91.alloc (.cells #[.string ⟨x_s.toArray⟩, .string ⟨x_p.toArray⟩, .int .i64 x_n, .bool x_v0, .string ⟨x_l0.toArray⟩, .bool x_v1, .string ⟨x_l1.toArray⟩, .bool x_v2, .string ⟨x_l2.toArray⟩, .bool x_v3, .string ⟨x_l3.toArray⟩, .slice xa X.length xc] 31)) rfl rfl (by kernel_rfl) (by kernel_rfl) (by kernel_rfl) hc2 ?_
      have hB6 : Cel (wx91.alloc (.cells #[.string ⟨x_s.toArray⟩, .string ⟨x_p.toArray⟩, .int .i64 x_n, .bool x_v0, .string ⟨x_l0.toArray⟩, .bool x_v1, .string ⟨x_l1.toArray⟩, .bool x_v2, .string ⟨x_l2.toArray⟩, .bool x_v3, .string ⟨x_l3.toArray⟩, .slice xa X.length xc] 31)) wx91.heap.size #[.string ⟨x_s.toArray⟩, .string ⟨x_p.toArray⟩, .int .i64 x_n, .bool x_v0, .string ⟨x_l0.toArray⟩, .bool x_v1, .string ⟨x_l1.toArray⟩, .bool x_v2, .string ⟨x_l2.toArray⟩, .bool x_v3, .string ⟨x_l3.toArray⟩, .slice xa X.length xc] 31 := heap_alloc_new _ _
      refine hx_append (i := 4) (oi := _) (.tmp 144) (.tmp 146) 22 wr.heap.size 31 i4 (.agg #[.string ByteArray.empty, .string ByteArray.empty, .int .i64 0, .bool false, .string ByteArray.empty, .bool false, .string ByteArray.empty, .bool false, .string ByteArray.empty, .bool false, .string ByteArray.empty, .slice none 0 0]) 12 160 (.slice ak K.length ck) K.length _ _ (some ⟨wx91.heap.size, 0, none⟩) 1 1 (#[.string ⟨x_s.toArray⟩, .string ⟨x_p.toArray⟩, .int .i64 x_n, .bool x_v0, .string ⟨x_l0.toArray⟩, .bool x_v1, .string ⟨x_l1.toArray⟩, .bool x_v2, .string ⟨x_l2.toArray⟩, .bool x_v3, .string ⟨x_l3.toArray⟩, .slice xa X.length xc] : Array Value).toList rfl rfl (by kernel_rfl) (by kernel_rfl) rfl Tryd.underlying22 I4.out.1 I4.out.2.1 I4.out.2.2.1 I4.out.2.2.2 rfl (by decide) (by kernel_rfl) hK.row (by kernel_rfl) (reads_cel hB6 rfl) HOX.out (by unfold maxLen; omega) (by omega) (hc2).size ?_
      intro v4 w4 hown4 hg4 hb4
      have hc3 : Since wr w4 := Below.grown hc2 hg4 (hc2).size (own_ge hK.row)
      replace hK := nest_plus (c := (((x_s, x_p, x_n, (x_v0, x_l0), (x_v1, x_l1), (x_v2, x_l2), (x_v3, x_l3)) : Atm), X)) (u := .slice xa X.length xc) hK hown4 rfl hg4
      obtain ⟨ak4, ck4, rfl⟩ := own_slice hK.row
      clear hown4 hg4 hb4 hB6
      refine ⟨hc3, ?_⟩
      have hLT : ∀ p ∈ K, ∀ b, p.2.ownBlock = some b → b < w4.heap.size := fun p hp b hb => ((hK.ins p hp).lt b hb).2
      refine hx_call (i := 6) (oi := _) 13 #[.slice vf G.length fc] rfl rfl (by kernel_rfl) (by kernel_rfl) (by kernel_rfl) (own_atm _ G _ (anext HGr.out hc3) hbG) ?_
      rintro e wx92 ⟨vg, rfl, hO, hb⟩
      have hc4 : Since wr wx92 := hc3.trans hb
      replace hK := hK.next hb
      obtain ⟨ag, cg, rfl⟩ := own_slice hO
      have hBO : wr.heap.size ≤ w4.heap.size := (hc3).size
      have hBZ := hb.size
      clear hb
      refine ⟨_, rfl, hc4, ?_⟩
      refine hx_append (i := 8) (oi := _) (.tmp 149) (.tmp 150) 23 _ 29 i5 (.agg #[.string ByteArray.empty, .string ByteArray.empty, .int .i64 0, .bool false, .string ByteArray.empty, .bool false, .string ByteArray.empty, .bool false, .string ByteArray.empty, .bool false, .string ByteArray.empty]) 11 136 (.slice ag G.length cg) G.length _ _ vf G.length fc (G.flatMap atmL) rfl rfl (by kernel_rfl) (by kernel_rfl) rfl Tryd.underlying23 I5.out.1 I5.out.2.1 I5.out.2.2.1 I5.out.2.2.2 rfl (by decide) (by kernel_rfl) hO (by kernel_rfl) (atm_reads (anext HGr.out hc4)) (flat_oneK atmL_one G) (by unfold maxLen; omega) (by omega) hBZ ?_
      intro v5 w5 hown5 hg5 hb5
      have hc5 : Since wr w5 := Below.grown hc4 hg5 (hc4).size (own_ge (own_base hO hBO))
      replace hK := hK.other hg5 (own_kind_apart hK.row hO (by decide)) (fun p hp => lt_apart hO (hLT p hp))
      replace hO := hown5
      clear hown5 hg5 hb5 hLT hBO hBZ
      obtain ⟨ag5, cg5, rfl⟩ := own_slice hO
      refine ⟨hc5, ?_⟩
      have hRR := nestp_rrow hK (anext HXr.out hc5)
      have hAR := own_dbl hO
      rw [eK] at hRR
      refine hx_call (i := 10) (oi := _) 10 #[.slice ak4 (K.length + 1) ck4, .slice ag5 (G.length + G.length) cg5, .slice av N.length cv] rfl rfl (by kernel_rfl) (by kernel_rfl) (by kernel_rfl) (HSND.out _ hc5 _ _ _ _ _ _ hRR hAR) ?_
      rintro e wx93 ⟨rfl, hb⟩
      have hc6 : Since wr wx93 := hc5.trans hb
      replace hK := hK.next hb
      replace hO := own_since hO hb
      clear hb
      refine ⟨_, rfl, hc6, ?_⟩
      refine hx_take (i := 11) (oi := _) (v := .tuple #[.int .i64 z1, .int .i64 z2]) rfl rfl hns (by kernel_rfl) (by kernel_rfl) hQ (by kernel_rfl) (fun _ _ => by kernel_rfl) hc6 ?_
      refine hx_take (i := 12) (oi := _) (v := .int .i64 z1) rfl rfl hns (by kernel_rfl) (by kernel_rfl) hQ (by kernel_rfl) (fun _ _ => by kernel_rfl) hc6 ?_
      refine hx_take (i := 13) (oi := _) (v := .int .i64 z2) rfl rfl hns (by kernel_rfl) (by kernel_rfl) hQ (by kernel_rfl) (fun _ _ => by kernel_rfl) hc6 ?_
      refine hx_take (i := 14) (oi := _) (v := .int .i64 z1) rfl rfl hns (by kernel_rfl) (by kernel_rfl) hQ (by kernel_rfl) (fun _ _ => by kernel_rfl) hc6 ?_
      refine hx_take (i := 15) (oi := _) (v := .int .i64 z2) rfl rfl hns (by kernel_rfl) (by kernel_rfl) hQ (by kernel_rfl) (fun _ _ => by kernel_rfl) hc6 ?_
      refine wpAnyH_done (by kernel_rfl) ?_ _
      clear hns hQ
      simp only [List.set_cons_zero, List.set_cons_succ]
      go_wp2_with fail
      go_meet
      case rel => exact ⟨rfl, rfl, hc6⟩
    · have hc1 : Since wr (wr.drew.alloc (.cells #[.string ⟨x_s.toArray⟩, .string ⟨x_p.toArray⟩, .int .i64 x_n, .bool x_v0, .string ⟨x_l0.toArray⟩, .bool x_v1, .string ⟨x_l1.toArray⟩, .bool x_v2, .string ⟨x_l2.toArray⟩, .bool x_v3, .string ⟨x_l3.toArray⟩, .slice xa X.length xc] 31)) := hc0.alloc _
      have hB6 : Cel (wr.drew.alloc (.cells #[.string ⟨x_s.toArray⟩, .string ⟨x_p.toArray⟩, .int .i64 x_n, .bool x_v0, .string ⟨x_l0.toArray⟩, .bool x_v1, .string ⟨x_l1.toArray⟩, .bool x_v2, .string ⟨x_l2.toArray⟩, .bool x_v3, .string ⟨x_l3.toArray⟩, .slice xa X.length xc] 31)) wr.drew.heap.size #[.string ⟨x_s.toArray⟩, .string ⟨x_p.toArray⟩, .int .i64 x_n, .bool x_v0, .string ⟨x_l0.toArray⟩, .bool x_v1, .string ⟨x_l1.toArray⟩, .bool x_v2, .string ⟨x_l2.toArray⟩, .bool x_v3, .string ⟨x_l3.toArray⟩, .slice xa X.length xc] 31 := heap_alloc_new _ _
      refine hx_call (i := 1) (oi := _) 12 #[.slice va L.length lc] rfl rfl (by kernel_rfl) (by kernel_rfl) (by kernel_rfl) (ownclauses_any _ L _ (rnext HVr.out hc1) hbL hbC) ?_
      rintro e wx91 ⟨vk, rfl, K, eK, hK, hb⟩
      have hc2 : Since wr wx91 := hc1.trans hb
      replace hB6 := hB6.next hb
      obtain ⟨ak, ck, rfl⟩ := own_slice hK.row
      have hKl : K.length = L.length := by rw [← eK, List.length_map]
      replace hK := hK.base (hc1).size
      clear hb
      refine ⟨_, rfl, hc2, ?_⟩
      refine hx_append (i := 4) (oi := _) (.tmp 144) (.tmp 146) 22 wr.heap.size 31 i4 (.agg #[.string ByteArray.empty, .string ByteArray.empty, .int .i64 0, .bool false, .string ByteArray.empty, .bool false, .string ByteArray.empty, .bool false, .string ByteArray.empty, .bool false, .string ByteArray.empty, .slice none 0 0]) 12 160 (.slice ak K.length ck) K.length _ _ (some ⟨wr.drew.heap.size, 0, none⟩) 1 1 (#[.string ⟨x_s.toArray⟩, .string ⟨x_p.toArray⟩, .int .i64 x_n, .bool x_v0, .string ⟨x_l0.toArray⟩, .bool x_v1, .string ⟨x_l1.toArray⟩, .bool x_v2, .string ⟨x_l2.toArray⟩, .bool x_v3, .string ⟨x_l3.toArray⟩, .slice xa X.length xc] : Array Value).toList rfl rfl (by kernel_rfl) (by kernel_rfl) rfl Tryd.underlying22 I4.out.1 I4.out.2.1 I4.out.2.2.1 I4.out.2.2.2 rfl (by decide) (by kernel_rfl) hK.row (by kernel_rfl) (reads_cel hB6 rfl) HOX.out (by unfold maxLen; omega) (by omega) (hc2).size ?_
      intro v4 w4 hown4 hg4 hb4
      have hc3 : Since wr w4 := Below.grown hc2 hg4 (hc2).size (own_ge hK.row)
      replace hK := nest_plus (c := (((x_s, x_p, x_n, (x_v0, x_l0), (x_v1, x_l1), (x_v2, x_l2), (x_v3, x_l3)) : Atm), X)) (u := .slice xa X.length xc) hK hown4 rfl hg4
      obtain ⟨ak4, ck4, rfl⟩ := own_slice hK.row
      clear hown4 hg4 hb4 hB6
      refine ⟨hc3, ?_⟩
      have hLT : ∀ p ∈ K, ∀ b, p.2.ownBlock = some b → b < w4.heap.size := fun p hp b hb => ((hK.ins p hp).lt b hb).2
      refine hx_call (i := 6) (oi := _) 13 #[.slice vf G.length fc] rfl rfl (by kernel_rfl) (by kernel_rfl) (by kernel_rfl) (own_atm _ G _ (anext HGr.out hc3) hbG) ?_
      rintro e wx92 ⟨vg, rfl, hO, hb⟩
      have hc4 : Since wr wx92 := hc3.trans hb
      replace hK := hK.next hb
      obtain ⟨ag, cg, rfl⟩ := own_slice hO
      have hBO : wr.heap.size ≤ w4.heap.size := (hc3).size
      have hBZ := hb.size
      clear hb
      refine ⟨_, rfl, hc4, ?_⟩
      refine hx_append (i := 8) (oi := _) (.tmp 149) (.tmp 150) 23 _ 29 i5 (.agg #[.string ByteArray.empty, .string ByteArray.empty, .int .i64 0, .bool false, .string ByteArray.empty, .bool false, .string ByteArray.empty, .bool false, .string ByteArray.empty, .bool false, .string ByteArray.empty]) 11 136 (.slice ag G.length cg) G.length _ _ vf G.length fc (G.flatMap atmL) rfl rfl (by kernel_rfl) (by kernel_rfl) rfl Tryd.underlying23 I5.out.1 I5.out.2.1 I5.out.2.2.1 I5.out.2.2.2 rfl (by decide) (by kernel_rfl) hO (by kernel_rfl) (atm_reads (anext HGr.out hc4)) (flat_oneK atmL_one G) (by unfold maxLen; omega) (by omega) hBZ ?_
      intro v5 w5 hown5 hg5 hb5
      have hc5 : Since wr w5 := Below.grown hc4 hg5 (hc4).size (own_ge (own_base hO hBO))
      replace hK := hK.other hg5 (own_kind_apart hK.row hO (by decide)) (fun p hp => lt_apart hO (hLT p hp))
      replace hO := hown5
      clear hown5 hg5 hb5 hLT hBO hBZ
      obtain ⟨ag5, cg5, rfl⟩ := own_slice hO
      refine ⟨hc5, ?_⟩
      have hRR := nestp_rrow hK (anext HXr.out hc5)
      have hAR := own_dbl hO
      rw [eK] at hRR
      refine hx_call (i := 10) (oi := _) 10 #[.slice ak4 (K.length + 1) ck4, .slice ag5 (G.length + G.length) cg5, .slice av N.length cv] rfl rfl (by kernel_rfl) (by kernel_rfl) (by kernel_rfl) (HSND.out _ hc5 _ _ _ _ _ _ hRR hAR) ?_
      rintro e wx93 ⟨rfl, hb⟩
      have hc6 : Since wr wx93 := hc5.trans hb
      replace hK := hK.next hb
      replace hO := own_since hO hb
      clear hb
      refine ⟨_, rfl, hc6, ?_⟩
      refine hx_take (i := 11) (oi := _) (v := .tuple #[.int .i64 z1, .int .i64 z2]) rfl rfl hns (by kernel_rfl) (by kernel_rfl) hQ (by kernel_rfl) (fun _ _ => by kernel_rfl) hc6 ?_
      refine hx_take (i := 12) (oi := _) (v := .int .i64 z1) rfl rfl hns (by kernel_rfl) (by kernel_rfl) hQ (by kernel_rfl) (fun _ _ => by kernel_rfl) hc6 ?_
      refine hx_take (i := 13) (oi := _) (v := .int .i64 z2) rfl rfl hns (by kernel_rfl) (by kernel_rfl) hQ (by kernel_rfl) (fun _ _ => by kernel_rfl) hc6 ?_
      refine hx_take (i := 14) (oi := _) (v := .int .i64 z1) rfl rfl hns (by kernel_rfl) (by kernel_rfl) hQ (by kernel_rfl) (fun _ _ => by kernel_rfl) hc6 ?_
      refine hx_take (i := 15) (oi := _) (v := .int .i64 z2) rfl rfl hns (by kernel_rfl) (by kernel_rfl) hQ (by kernel_rfl) (fun _ _ => by kernel_rfl) hc6 ?_
      refine wpAnyH_done (by kernel_rfl) ?_ _
      clear hns hQ
      simp only [List.set_cons_zero, List.set_cons_succ]
      go_wp2_with fail
      go_meet
      case rel => exact ⟨rfl, rfl, hc6⟩
  case rest =>
  obtain ⟨rfl, rfl, hSc⟩ := hcut
  have hSE := hS0.trans (hSo2.trans hSc)
  have hz2 := HLAW.out
  rw [← hz.out] at hz2
  rcases hTw with ⟨rfl, ht⟩ | ⟨j, hj, rfl, ht⟩
  · rw [ht, List.drop_eq_nil_of_le (Nat.le_refl _)] at hz2
    have e1 : z1 = 0 := congrArg Prod.fst hz2
    have e2 : z2 = 0 := congrArg Prod.snd hz2
    subst e1 e2
    go_wp2_with fail
    go_ret
    exact ⟨rfl, hSE⟩
  · rw [ht] at hz2
    have e1 : z1 = (((T.length + j : Nat) : Int)) := congrArg Prod.fst hz2
    have e2 : z2 = 15 := congrArg Prod.snd hz2
    subst e1 e2
    have hnn : (0 : Int) ≤ (((T.length + j : Nat) : Int)) := by omega
    go_wp2_with fail
    go_ret
    exact ⟨ret_bool (by simp), hSE⟩
end Go.Proofs.YtdlnmkdbjgbimaaDoor
