/- vouchsafekit.Own of ints, OwnSteps, OwnClauses; rows of the call's own, read as rows of steps and clauses. Same[int]; rows out of blocks; two steps of the call's own; three operations of which any may come first. -/
import Derived.Test.YtdlnmkdbjgbimaaGreatDoorNest
import Derived.Test.YtdlnmkdbjgbimaaGreatDoorHeldM
import Derived.Test.YtdlnmkdbjgbimaaGreatDoorInv
import Derived.Test.YtdlnmkdbjgbimaaGreatDoorCkS
namespace Go.Proofs.YtdlnmkdbjgbimaaGreatDoor
open Go.RowKit

theorem take_more {α : Type} (L : List α) (k : Nat) (h : k < L.length) : L.take k ++ [L[k]] = L.take (k + 1) := by rw [List.take_succ_eq_append_getElem h]
def intL (x : Int) : List Value := [.int .i64 x]
theorem int_reads {W : World} {a : Option Addr} {n c : Nat} {L : List Int} (h : IRow W (.slice a n c) L) : Reads W W.heap.size 1 a n (L.flatMap intL) :=
  krow_reads (f := intL) (by decide) (fun _ => rfl) (fun b o x hx j u hu => by
    match j, hu with
    | 0, hu => have e : Value.int .i64 x = u := by simpa [intL] using hu
               rw [← e]; exact hx) h
theorem intL_one (x : Int) : ∀ u ∈ intL x, u.oneCell' = true := by simp [intL, Value.oneCell']
theorem own_int_info : (Tryz.prog.info? 3).map (fun i => (i.zero, i.size, i.bytes)) = some (some (.int .i64 0), 1, 8) := by kernel_rfl
section
variable {P : Program} {md : Region.Mode} {ops : Array Oper} {Q : Exit → Act → World → Prop} {S : World → Prop} {i j d d' fuel : Nat} {oi oj : Oper} {listed : Array Bool} {L : List Value} {ds : List Deferred} {w : World}
/-- Two may come first: one yields a value, the other is a call. -/
theorem hx_two_vc (v : Value) (w1 : World) (f : FuncId) (args : Array Value) {Rl : Ending → World → Prop} (hi : ops[i]? = some oi) (hj : ops[j]? = some oj) (hr : Region.ready md ops listed = [i, j]) (hwi : Region.wanted oi (yielded ops L.toArray) = true) (hwj : Region.wanted oj (yielded ops L.toArray) = true)
    (hd : oi.dst = some d) (hrun : (execOp (Act.eval ⟨L.toArray, ds⟩) oi).run P w = .ok (.value v) w1) (hS : S w1)
    (hd' : oj.dst = some d') (hrun' : (execOp (Act.eval ⟨L.toArray, ds⟩) oj).run P w = .ok (.enter f args) w) (hc : Calls P f args w Rl)
    (h1 : wpAnyH P md ops Q S fuel (listed.setIfInBounds i true) ⟨(L.set d v).toArray, ds⟩ w1)
    (h2 : ∀ e w', Rl e w' → ∃ v, e = .returned v ∧ S w' ∧ wpAnyH P md ops Q S fuel (listed.setIfInBounds j true) ⟨(L.set d' v).toArray, ds⟩ w') : wpAnyH P md ops Q S (fuel + 1) listed ⟨L.toArray, ds⟩ w :=
  hx_two hi hj hr hwi hwj (wp_value hd hrun ⟨hS, h1⟩) (wp_calls f args hd' hrun' hc fun e w' hR => by
    obtain ⟨v, he, h3, h4⟩ := h2 e w' hR
    exact ⟨v, he, h3, h4⟩)
theorem hx_two_cv (f : FuncId) (args : Array Value) {Rl : Ending → World → Prop} (v : Value) (w1 : World) (hi : ops[i]? = some oi) (hj : ops[j]? = some oj) (hr : Region.ready md ops listed = [i, j]) (hwi : Region.wanted oi (yielded ops L.toArray) = true) (hwj : Region.wanted oj (yielded ops L.toArray) = true)
    (hd' : oi.dst = some d') (hrun' : (execOp (Act.eval ⟨L.toArray, ds⟩) oi).run P w = .ok (.enter f args) w) (hc : Calls P f args w Rl)
    (hd : oj.dst = some d) (hrun : (execOp (Act.eval ⟨L.toArray, ds⟩) oj).run P w = .ok (.value v) w1) (hS : S w1)
    (h2 : ∀ e w', Rl e w' → ∃ v, e = .returned v ∧ S w' ∧ wpAnyH P md ops Q S fuel (listed.setIfInBounds i true) ⟨(L.set d' v).toArray, ds⟩ w')
    (h1 : wpAnyH P md ops Q S fuel (listed.setIfInBounds j true) ⟨(L.set d v).toArray, ds⟩ w1) : wpAnyH P md ops Q S (fuel + 1) listed ⟨L.toArray, ds⟩ w :=
  hx_two hi hj hr hwi hwj (wp_calls f args hd' hrun' hc fun e w' hR => by
    obtain ⟨v, he, h3, h4⟩ := h2 e w' hR
    exact ⟨v, he, h3, h4⟩) (wp_value hd hrun ⟨hS, h1⟩)
theorem hx_two_vv (v : Value) (w1 : World) (v2 : Value) (w2 : World) (hi : ops[i]? = some oi) (hj : ops[j]? = some oj) (hr : Region.ready md ops listed = [i, j]) (hwi : Region.wanted oi (yielded ops L.toArray) = true) (hwj : Region.wanted oj (yielded ops L.toArray) = true)
    (hd : oi.dst = some d) (hrun : (execOp (Act.eval ⟨L.toArray, ds⟩) oi).run P w = .ok (.value v) w1) (hS : S w1)
    (hd' : oj.dst = some d') (hrun' : (execOp (Act.eval ⟨L.toArray, ds⟩) oj).run P w = .ok (.value v2) w2) (hS2 : S w2)
    (h1 : wpAnyH P md ops Q S fuel (listed.setIfInBounds i true) ⟨(L.set d v).toArray, ds⟩ w1)
    (h2 : wpAnyH P md ops Q S fuel (listed.setIfInBounds j true) ⟨(L.set d' v2).toArray, ds⟩ w2) : wpAnyH P md ops Q S (fuel + 1) listed ⟨L.toArray, ds⟩ w :=
  hx_two hi hj hr hwi hwj (wp_value hd hrun ⟨hS, h1⟩) (wp_value hd' hrun' ⟨hS2, h2⟩)
/-- An append to a row of the call's own. -/
theorem hx_append (s x : Operand) (t : TypeId) (base : Nat) (e : TypeId) (ii : TypeInfo) (z : Value) (size bytes : Nat) (v : Value) (n : Nat) (xs : List Value) (B : Nat) (A : Option Addr) (m c : Nat) (news : List Value)
    (hi : ops[i]? = some oi) (hd : oi.dst = some d) (hr : Region.ready md ops listed = [i]) (hw : Region.wanted oi (yielded ops L.toArray) = true)
    (ho : oi.op = .call { callee := .builtin .append, args := #[s, x], argTypes := #[t, t] }) (ht : P.underlying t = some (.slice e)) (hii : P.info? e = some ii) (hz : ii.zero = some z)
    (hsize : ii.size = size) (hby : ii.bytes = bytes) (hzs : z.cells.size = size) (hsz : 0 < size)
    (hs : Act.eval ⟨L.toArray, ds⟩ s = v) (hown : w.ownsRow base e size v n xs)
    (hx : Act.eval ⟨L.toArray, ds⟩ x = .slice A m c) (hrd : Reads w B size A m news) (h1 : ∀ u ∈ news, u.oneCell' = true)
    (h63 : n + m ≤ maxLen) (hbytes : (n + m) * bytes ≤ 140737488355328) (hbase : base ≤ w.heap.size)
    (h : ∀ v' w', w'.ownsRow base e size v' (n + m) (xs ++ news) → w.grownBy w' v.ownBlock → (v'.ownBlock = v.ownBlock ∨ v'.ownBlock = some w.heap.size) → S w' ∧ wpAnyH P md ops Q S fuel (listed.setIfInBounds i true) ⟨(L.set d v').toArray, ds⟩ w') : wpAnyH P md ops Q S (fuel + 1) listed ⟨L.toArray, ds⟩ w :=
  hx_step hi hr hw (wp_append_any w s x t ho base e ii z size bytes ht hii hz hsize hby hzs hsz v n xs hs hown B A m c news hx hrd h1 h63 hbytes hbase fun v' w' a b c => by
    rw [hd, put_list]
    exact h v' w' a b c)
/-- An append to a row of the call's own, as one of two operations that may come first. -/
theorem wp_appendK {K : Act → World → Prop} (s x : Operand) (t : TypeId) (base : Nat) (e : TypeId) (ii : TypeInfo) (z : Value) (size bytes : Nat) (v : Value) (n : Nat) (xs : List Value) (B : Nat) (A : Option Addr) (m c : Nat) (news : List Value)
    (hd : oi.dst = some d)
    (ho : oi.op = .call { callee := .builtin .append, args := #[s, x], argTypes := #[t, t] }) (ht : P.underlying t = some (.slice e)) (hii : P.info? e = some ii) (hz : ii.zero = some z)
    (hsize : ii.size = size) (hby : ii.bytes = bytes) (hzs : z.cells.size = size) (hsz : 0 < size)
    (hs : Act.eval ⟨L.toArray, ds⟩ s = v) (hown : w.ownsRow base e size v n xs)
    (hx : Act.eval ⟨L.toArray, ds⟩ x = .slice A m c) (hrd : Reads w B size A m news) (h1 : ∀ u ∈ news, u.oneCell' = true)
    (h63 : n + m ≤ maxLen) (hbytes : (n + m) * bytes ≤ 140737488355328) (hbase : base ≤ w.heap.size)
    (h : ∀ v' w', w'.ownsRow base e size v' (n + m) (xs ++ news) → w.grownBy w' v.ownBlock → (v'.ownBlock = v.ownBlock ∨ v'.ownBlock = some w.heap.size) → K ⟨(L.set d v').toArray, ds⟩ w') : Oper.wp P oi ⟨L.toArray, ds⟩ w K Q :=
  wp_append_any w s x t ho base e ii z size bytes ht hii hz hsize hby hzs hsz v n xs hs hown B A m c news hx hrd h1 h63 hbytes hbase fun v' w' a b c => by
    rw [hd, put_list]
    exact h v' w' a b c
end
theorem apart_lt {W : World} {B : Nat} {e : TypeId} {K n : Nat} {u v : Value} {xs : List Value} (h : W.ownsRow B e K u n xs) (hl : ∀ b, v.ownBlock = some b → b < B) : apartV u v := by
  unfold apartV
  cases hb : u.ownBlock with
  | none => exact .inl rfl
  | some b =>
    refine .inr fun hh => ?_
    have l1 := (h.lt b hb).1
    have l2 := hl b hh.symm
    omega
theorem lt_apart {W : World} {B : Nat} {e : TypeId} {K n : Nat} {u v : Value} {xs : List Value} (h : W.ownsRow B e K u n xs) (hl : ∀ b, v.ownBlock = some b → b < B) : v.ownBlock = none ∨ v.ownBlock ≠ u.ownBlock := by
  cases hb : v.ownBlock with
  | none => exact .inl rfl
  | some b =>
    refine .inr fun hh => ?_
    have l1 := (h.lt b hh.symm).1
    have l2 := hl b hb
    omega
theorem reads_cel {W : World} {g : Nat} {cs : Array Value} {e : TypeId} {K : Nat} (h : Cel W g cs e) (hK : cs.size = K) : Reads W W.heap.size K (some ⟨g, 0, none⟩) 1 cs.toList := by
  refine ⟨by simp [hK], fun _ => ⟨_, rfl, h.lt, fun j u hu => ?_⟩⟩
  rw [add_form, Nat.zero_add, h.cell j, ← hu, Array.getElem?_toList]
theorem Nest.base {α : Type} {W : World} {B B' : Nat} {e1 : TypeId} {K1 : Nat} {c : α → Value → List Value} {e2 : TypeId} {K2 : Nat} {cnt : α → Nat} {inn : α → List Value} {v : Value} {L : List (α × Value)} (h : Nest W B e1 K1 c e2 K2 cnt inn v L) (hb : B' ≤ B) : Nest W B' e1 K1 c e2 K2 cnt inn v L :=
  ⟨own_base h.row hb, fun p hp => own_base (h.ins p hp) hb, h.apart⟩
theorem reads_new (W : World) (cs : Array Value) (e : TypeId) (K : Nat) (hK : cs.size = K) : Reads (W.alloc (.cells cs e)) (W.alloc (.cells cs e)).heap.size K (some ⟨W.heap.size, 0, none⟩) 1 cs.toList := by
  refine ⟨by simp [hK], fun _ => ⟨_, rfl, by simp, fun j u hu => ?_⟩⟩
  rw [add_form, Nat.zero_add, World.cell?_alloc_new]
  rw [← hu, Array.getElem?_toList]
theorem krow_own {α : Type} {K : Nat} {R : World → Nat → Nat → α → Prop} {f : α → List Value} {W : World} {B : Nat} {e : TypeId} {v : Value} {L : List α} (hf : ∀ x, (f x).length = K)
    (hR : ∀ b o x, x ∈ L → (∀ j u, (f x)[j]? = some u → W.cell? ⟨b, o + j, none⟩ = some u) → R W b o x) (h : W.ownsRow B e K v L.length (L.flatMap f)) : KRow K R W v L := by
  obtain ⟨a, c, rfl⟩ := own_slice h
  rcases row_of_own h with ⟨h1, h2, h3⟩ | ⟨b, o, c', h1, h2, h3⟩
  · injection h1 with e1 e2 e3
    subst e1 e3
    have : L = [] := List.eq_nil_of_length_eq_zero h2
    subst this
    exact KRow.nil _ _
  · injection h1 with e1 e2 e3
    subst e1 e3
    refine ⟨_, _, rfl, h2, fun h0 => ⟨b, o, rfl, fun k hk => hR _ _ _ (List.getElem_mem hk) fun j u hu => ?_⟩⟩
    have hj : j < K := by rw [← hf L[k]]; exact (List.getElem?_eq_some_iff.1 hu).1
    have hl : k * K + j < (L.flatMap f).length := by
      rw [flat_len hf]
      have : (k + 1) * K ≤ L.length * K := Nat.mul_le_mul_right K hk
      rw [Nat.add_mul, Nat.one_mul] at this
      omega
    have := h3 (k * K + j) hl
    rw [Nat.add_assoc, this, ← List.getElem?_eq_getElem hl, flat_at hf L k hk j hj, hu]
theorem own_arow {W : World} {B : Nat} {v : Value} {L : List Atm} (h : W.ownsRow B 29 11 v L.length (L.flatMap atmL)) : ARow W v L :=
  krow_own (fun _ => rfl) (fun _ _ _ _ hc j u hu => hc j u (by rw [← hu]; exact Array.getElem?_toList)) h
theorem own_irow {W : World} {B : Nat} {v : Value} {L : List Int} (h : W.ownsRow B 3 1 v L.length (L.flatMap intL)) : IRow W v L :=
  krow_own (fun _ => rfl) (fun _ _ _ _ hc => hc 0 _ rfl) h
/-- A row of pairs, read without the second parts. -/
theorem krow_fst {α β : Type} {K : Nat} {R : World → Nat → Nat → α → Prop} {W : World} {v : Value} {L : List (α × β)} (h : KRow K (fun W b o p => R W b o p.1) W v L) : KRow K R W v (L.map Prod.fst) := by
  obtain ⟨a, c, rfl, h2, h3⟩ := h
  refine ⟨a, c, by rw [List.length_map], by rw [List.length_map]; exact h2, fun h0 => ?_⟩
  rw [List.length_map] at h0
  obtain ⟨b, o, h4, h5⟩ := h3 h0
  refine ⟨b, o, h4, fun k hk => ?_⟩
  rw [List.length_map] at hk
  rw [List.getElem_map]
  exact h5 k hk
def rulC (x : Cls) (u : Value) : List Value := (atmC x.1).toList ++ [u]
def stpC (x : Stp) (u : Value) : List Value := (atmC x.1).toList ++ [.int .i64 x.2.1, u]
abbrev NestK (W : World) (B : Nat) := Nest W B 47 12 rulC 29 11 (fun x => x.2.length) (fun x => x.2.flatMap atmL)
abbrev NestS (W : World) (B : Nat) := Nest W B 49 13 stpC 3 1 (fun x => x.2.2.length) (fun x => x.2.2.flatMap intL)
theorem nest_rrow {W : World} {B : Nat} {v : Value} {L : List ((Atm × List Atm) × Value)} (h : NestK W B v L) : RRow W v (L.map Prod.fst) :=
  krow_fst (krow_own (f := fun p => rulC p.1 p.2) (fun _ => rfl) (fun _ _ p hp hc => ⟨fun j u hu => hc j u (by
    show ((atmC p.1.1).toList ++ [p.2])[j]? = some u
    have hj : j < (atmC p.1.1).toList.length := by rw [Array.length_toList]; exact (Array.getElem?_eq_some_iff.1 hu).1
    rw [List.getElem?_append_left hj, Array.getElem?_toList]; exact hu), p.2, hc 11 _ rfl, own_arow (h.ins p hp)⟩) h.row)
theorem nest_srow {W : World} {B : Nat} {v : Value} {L : List (Stp × Value)} (h : NestS W B v L) : SRow W v (L.map Prod.fst) :=
  krow_fst (krow_own (f := fun p => stpC p.1 p.2) (fun _ => rfl) (fun _ _ p hp hc => ⟨fun j u hu => hc j u (by
    show ((atmC p.1.1).toList ++ [.int .i64 p.1.2.1, p.2])[j]? = some u
    have hj : j < (atmC p.1.1).toList.length := by rw [Array.length_toList]; exact (Array.getElem?_eq_some_iff.1 hu).1
    rw [List.getElem?_append_left hj, Array.getElem?_toList]; exact hu), hc 11 _ rfl, p.2, hc 12 _ rfl, own_irow (h.ins p hp)⟩) h.row)
theorem rulInfo : (Tryz.prog.info? 47).map (fun i => (i.zero, i.size, i.bytes)) = some (some (.agg #[.string ByteArray.empty, .string ByteArray.empty, .int .i64 0, .bool false, .string ByteArray.empty, .bool false, .string ByteArray.empty, .bool false, .string ByteArray.empty, .bool false, .string ByteArray.empty, .slice none 0 0]), 12, 160) := by kernel_rfl
theorem stpInfo : (Tryz.prog.info? 49).map (fun i => (i.zero, i.size, i.bytes)) = some (some (.agg #[.string ByteArray.empty, .string ByteArray.empty, .int .i64 0, .bool false, .string ByteArray.empty, .bool false, .string ByteArray.empty, .bool false, .string ByteArray.empty, .bool false, .string ByteArray.empty, .int .i64 0, .slice none 0 0]), 13, 168) := by kernel_rfl
/-- Of the call's own, so far. -/
def OStp (w W : World) (v : Value) (L : List Stp) : Prop := ∃ N, N.map Prod.fst = L ∧ NestS W w.heap.size v N ∧ Since w W
def NewStps (w : World) (L : List Stp) (e : Ending) (W : World) : Prop := ∃ v, e = .returned v ∧ OStp w W v L
/-- Of the call's own, so far. -/
def OCls (w W : World) (v : Value) (L : List Cls) : Prop := ∃ N, N.map Prod.fst = L ∧ NestK W w.heap.size v N ∧ Since w W
def NewClss (w : World) (L : List Cls) (e : Ending) (W : World) : Prop := ∃ v, e = .returned v ∧ OCls w W v L
end Go.Proofs.YtdlnmkdbjgbimaaGreatDoor

namespace Go.Proofs.YtdlnmkdbjgbimaaGreatDoor
open Go.RowKit

theorem drop_eqI {α : Type} [DecidableEq α] {L1 L2 : List α} {k : Nat} (h1 : k < L1.length) (h2 : k < L2.length) : decide (L1.drop k = L2.drop k) = (decide (L1[k] = L2[k]) && decide (L1.drop (k + 1) = L2.drop (k + 1))) := by
  rw [List.drop_eq_getElem_cons h1, List.drop_eq_getElem_cons h2, Bool.eq_iff_iff, Bool.and_eq_true, decide_eq_true_eq, decide_eq_true_eq, decide_eq_true_eq, List.cons.injEq]
set_option maxHeartbeats 400000 in
theorem ksame_int (v1 v2 : Value) (L1 L2 : List Int) (w : World) (h1 : IRow w v1 L1) (h2 : IRow w v2 L2) (hm1 : L1.length ≤ 1000000) (hm2 : L2.length ≤ 1000000) :
    Calls Tryz.prog 15 #[v1, v2] w fun e w' => e = .returned (.bool (decide (L1 = L2))) ∧ ∃ m, w' = w.drewN m := by
  obtain ⟨a1, c1, rfl⟩ := h1.slice
  obtain ⟨a2, c2, rfl⟩ := h2.slice
  by_cases hl : L1.length = L2.length
  · have hq : ((L1.length : Int) != (L2.length : Int)) = false := by simp [hl]
    have HL := Lib.hid hl
    have H1 := Lib.hid h1
    have H2 := Lib.hid h2
    clear hl h1 h2
    go_enter Tryz.func15, Tryz.ntmps15
    go_wp2
    go_loopw [5] (fun i wr => ∃ k : Nat, k ≤ L1.length ∧ i = .int .i64 k ∧ Hid (decide (L1 = L2) = decide (L1.drop k = L2.drop k)) ∧ ∃ m, wr = w.drewN m) (fun i _ => L1.length - (intOf i).toNat)
    case atStart => exact ⟨0, Nat.zero_le _, rfl, rfl, 0, rfl⟩
    case round =>
      obtain ⟨k, hk, rfl, hres, m, rfl⟩ := hrel
      by_cases hlt : k < L1.length
      · have hlt2 : k < L2.length := by rw [← HL.out]; exact hlt
        obtain ⟨b1, o1, rfl, _, hc1⟩ := H1.out.get (by omega)
        obtain ⟨b2, o2, rfl, _, hc2⟩ := H2.out.get (by omega)
        have d1 := hc1 k hlt
        have d2 := hc2 k hlt2
        simp only [IntAt, Nat.mul_one] at d1 d2
        have hst := drop_eqI hlt hlt2
        have HST := Lib.hid hst
        clear hst hc1 hc2
        have hk2 : (k : Int) < (L2.length : Int) := by omega
        generalize L1[k] = x at *
        generalize L2[k] = y at *
        cases he : (x == y)
        · go_wp2
          go_quiet (fail)
          go_wp2
          go_ret
          refine ⟨ret_bool ?_, ?_⟩
          · have hn : x ≠ y := by simpa using he
            rw [hres.out, HST.out, decide_eq_false hn, Bool.false_and]
          · first | exact ⟨_, rfl⟩ | exact ⟨_, by rw [World.drewN_drewN]⟩
        · have hx : x = y := by simpa using he
          subst hx
          clear he
          go_wp2
          go_quiet (fail)
          go_wp2
          go_roundw
          case rel =>
            refine ⟨k + 1, by omega, by go_num, ?_, ?_⟩
            · show _ = _
              rw [hres.out, HST.out]; simp
            · first | exact ⟨_, rfl⟩ | exact ⟨_, by rw [World.drewN_drewN]⟩
          case measure => simp [intOf]; omega
      · go_wp2
        go_ret
        refine ⟨ret_bool ?_, m, rfl⟩
        rw [hres.out, List.drop_eq_nil_of_le (by omega), List.drop_eq_nil_of_le (by rw [← HL.out]; omega)]
        simp
  · have hq : ((L1.length : Int) != (L2.length : Int)) = true := by simp; omega
    clear h1 h2
    go_enter Tryz.func15, Tryz.ntmps15
    go_wp2
    go_ret
    exact ⟨ret_bool (by rw [eq_comm]; exact decide_eq_false (fun e => hl (by rw [e]))), 0, rfl⟩
section
variable {P : Program} {md : Region.Mode} {ops : Array Oper} {Q : Exit → Act → World → Prop} {S : World → Prop} {i j k fuel : Nat} {oi oj ok : Oper} {listed : Array Bool} {L : List Value} {ds : List Deferred} {w : World}
theorem hx_three (hi : ops[i]? = some oi) (hj : ops[j]? = some oj) (hk : ops[k]? = some ok) (hr : Region.ready md ops listed = [i, j, k]) (hwi : Region.wanted oi (yielded ops L.toArray) = true) (hwj : Region.wanted oj (yielded ops L.toArray) = true) (hwk : Region.wanted ok (yielded ops L.toArray) = true)
    (h1 : Oper.wp P oi ⟨L.toArray, ds⟩ w (fun a' w' => S w' ∧ wpAnyH P md ops Q S fuel (listed.setIfInBounds i true) a' w') Q)
    (h2 : Oper.wp P oj ⟨L.toArray, ds⟩ w (fun a' w' => S w' ∧ wpAnyH P md ops Q S fuel (listed.setIfInBounds j true) a' w') Q)
    (h3 : Oper.wp P ok ⟨L.toArray, ds⟩ w (fun a' w' => S w' ∧ wpAnyH P md ops Q S fuel (listed.setIfInBounds k true) a' w') Q) : wpAnyH P md ops Q S (fuel + 1) listed ⟨L.toArray, ds⟩ w :=
  wpAnyH_ready hr (by simp) (AllReadyH.cons hi (fun K' hK => by
    rw [if_pos hwi]
    exact Oper.wp_mono (fun a w hh => hK.out a w hh.1 (fun _ => hh.2)) h1) (AllReadyH.cons hj (fun K' hK => by
    rw [if_pos hwj]
    exact Oper.wp_mono (fun a w hh => hK.out a w hh.1 (fun _ => hh.2)) h2) (AllReadyH.cons hk (fun K' hK => by
    rw [if_pos hwk]
    exact Oper.wp_mono (fun a w hh => hK.out a w hh.1 (fun _ => hh.2)) h3) AllReadyH.nil)))
end
/-- A block, read as a row. -/
theorem krow_cel {α : Type} {K : Nat} {R : World → Nat → Nat → α → Prop} {f : α → List Value} {W : World} {g c : Nat} {e : TypeId} {cs : Array Value} {L : List α} (hf : ∀ x, (f x).length = K)
    (hR : ∀ b o x, x ∈ L → (∀ j u, (f x)[j]? = some u → W.cell? ⟨b, o + j, none⟩ = some u) → R W b o x) (h : Cel W g cs e) (hc : cs.toList.take (L.length * K) = L.flatMap f) (hn : L.length ≤ c) : KRow K R W (.slice (some ⟨g, 0, none⟩) L.length c) L := by
  refine ⟨_, _, rfl, hn, fun _ => ⟨g, 0, rfl, fun k hk => hR _ _ _ (List.getElem_mem hk) fun j u hu => ?_⟩⟩
  have hj : j < K := by rw [← hf L[k]]; exact (List.getElem?_eq_some_iff.1 hu).1
  have hl : k * K + j < L.length * K := by
    have : (k + 1) * K ≤ L.length * K := Nat.mul_le_mul_right K hk
    rw [Nat.add_mul, Nat.one_mul] at this
    omega
  have h2 := h.cell (k * K + j)
  rw [Nat.zero_add, h2, ← Array.getElem?_toList, ← List.getElem?_take_of_lt hl, hc, flat_at hf L k hk j hj, hu]
theorem arow_cel {W : World} {g c : Nat} {e : TypeId} {cs : Array Value} {L : List Atm} (h : Cel W g cs e) (hc : cs.toList.take (L.length * 11) = L.flatMap atmL) (hn : L.length ≤ c) : ARow W (.slice (some ⟨g, 0, none⟩) L.length c) L :=
  krow_cel (fun _ => rfl) (fun _ _ _ _ hc j u hu => hc j u (by rw [← hu]; exact Array.getElem?_toList)) h hc hn
theorem irow_cel {W : World} {g c : Nat} {e : TypeId} {cs : Array Value} {L : List Int} (h : Cel W g cs e) (hc : cs.toList.take (L.length * 1) = L.flatMap intL) (hn : L.length ≤ c) : IRow W (.slice (some ⟨g, 0, none⟩) L.length c) L :=
  krow_cel (fun _ => rfl) (fun _ _ _ _ hc => hc 0 _ rfl) h hc hn
theorem stp_read {W : World} {b o : Nat} {p : Stp × Value} (hc : ∀ j u, (stpC p.1 p.2)[j]? = some u → W.cell? ⟨b, o + j, none⟩ = some u) (h : IRow W p.2 p.1.2.2) : StpAt W b o p.1 :=
  ⟨fun j u hu => hc j u (by
    show ((atmC p.1.1).toList ++ [.int .i64 p.1.2.1, p.2])[j]? = some u
    have hj : j < (atmC p.1.1).toList.length := by rw [Array.length_toList]; exact (Array.getElem?_eq_some_iff.1 hu).1
    rw [List.getElem?_append_left hj, Array.getElem?_toList]; exact hu), hc 11 _ rfl, p.2, hc 12 _ rfl, h⟩
theorem srow_cel {W : World} {g c : Nat} {e : TypeId} {cs : Array Value} {L : List (Stp × Value)} (h : Cel W g cs e) (hc : cs.toList.take (L.length * 13) = L.flatMap fun p => stpC p.1 p.2) (hn : L.length ≤ c) (hi : ∀ p ∈ L, IRow W p.2 p.1.2.2) : SRow W (.slice (some ⟨g, 0, none⟩) L.length c) (L.map Prod.fst) :=
  krow_fst (krow_cel (f := fun p => stpC p.1 p.2) (fun _ => rfl) (fun _ _ p hp hc => stp_read hc (hi p hp)) h hc hn)
/-- Steps of the call's own, and one more, whose cites lie elsewhere. -/
theorem nests_plus {W W' : World} {B : Nat} {v v' u : Value} {N : List (Stp × Value)} {s : Stp} {xs : List Value} (h : NestS W B v N) (hown : W'.ownsRow B 49 13 v' (N.length + 1) ((N.flatMap fun p => stpC p.1 p.2) ++ xs)) (hx : xs = stpC s u) (hg : W.grownBy W' v.ownBlock) (hu : IRow W' u s.2.2) : SRow W' v' (N.map Prod.fst ++ [s]) := by
  subst hx
  have e : (N.flatMap fun p => stpC p.1 p.2) ++ stpC s u = (N ++ [(s, u)]).flatMap fun p => stpC p.1 p.2 := by simp
  rw [e, show N.length + 1 = (N ++ [(s, u)]).length by simp] at hown
  have h2 : SRow W' v' ((N ++ [(s, u)]).map Prod.fst) := krow_fst (krow_own (f := fun p => stpC p.1 p.2) (fun _ => rfl) (fun _ _ p hp hc => stp_read hc (by
      rcases List.mem_append.1 hp with hp | hp
      · exact own_irow ((h.ins p hp).kept hg (own_kind_apart (h.ins p hp) h.row (by decide)))
      · obtain rfl := List.mem_singleton.1 hp; exact hu)) hown)
  rwa [List.map_append] at h2
theorem stp_at {W : World} {b o : Nat} {x : Stp} (h : StpAt W b o x) : ∃ a c, At W b o (((atmC x.1).push (.int .i64 x.2.1)).push (.slice a x.2.2.length c)) ∧ IRow W (.slice a x.2.2.length c) x.2.2 := by
  obtain ⟨h1, h2, u, h3, h4⟩ := h
  obtain ⟨a, c, rfl⟩ := h4.slice
  exact ⟨a, c, at_push (at_push h1 h2) (by rw [Array.size_push]; exact h3), h4⟩
theorem stps_two {N : List (Stp × Value)} (h : N.map Prod.fst = tinyS) : ∃ u0 u1, N = [(tinyS[0], u0), (tinyS[1], u1)] := by
  match N, h with
  | [p, q], h =>
    have h1 : p.1 = tinyS[0] := by injection h
    have h2 : q.1 = tinyS[1] := by injection h with _ h; injection h
    exact ⟨p.2, q.2, by rw [← h1, ← h2]⟩
  | [], h => cases h
  | [p], h => injection h with _ h; cases h
  | p :: q :: r :: l, h => injection h with _ h; injection h with _ h; cases h
/-- Two steps of the call's own, of which the second one's cite, or clause, is stored to. -/
theorem late_any {W : World} {B : Nat} {v u0 u1 : Value} (h : NestS W B v [(tinyS[0], u0), (tinyS[1], u1)]) : ∃ g c g1 c1, v = .slice (some ⟨g, 0, none⟩) 2 c ∧ B ≤ g ∧ B ≤ g1 ∧ W.cell? ⟨g, 25, none⟩ = some (.slice (some ⟨g1, 0, none⟩) 1 c1) ∧ W.cell? ⟨g1, 0, none⟩ = some (.int .i64 0) ∧ W.frozen? ⟨g1, 0, none⟩ = false ∧ W.cell? ⟨g, 24, none⟩ = some (.int .i64 0) ∧ W.frozen? ⟨g, 24, none⟩ = false ∧
    SRow (W.setCell ⟨g1, 0, none⟩ (.int .i64 1)) (.slice (some ⟨g, 0, none⟩) 2 c) [tinyS[0], (tinyG, 0, [1])] ∧ SRow (W.setCell ⟨g, 24, none⟩ (.int .i64 1)) (.slice (some ⟨g, 0, none⟩) 2 c) [tinyS[0], (tinyG, 1, [0])] := by
  have hi0 : W.ownsRow B 3 1 u0 0 [] := h.ins (tinyS[0], u0) (by simp)
  have hi1 : W.ownsRow B 3 1 u1 1 [.int .i64 0] := h.ins (tinyS[1], u1) (by simp)
  have hrow : W.ownsRow B 49 13 v 2 ([(tinyS[0], u0), (tinyS[1], u1)].flatMap fun p => stpC p.1 p.2) := h.row
  have hne := own_kind_apart hrow hi1 (by decide)
  clear h
  obtain ⟨_, hr⟩ := hrow
  rcases hr with ⟨_, h0⟩ | ⟨g, c, cur, rfl, hB, hcur, hn, _, hs, ht⟩
  · cases h0
  obtain ⟨_, hr1⟩ := hi1
  rcases hr1 with ⟨_, h0⟩ | ⟨g1, c1, cur1, rfl, hB1, hcur1, hn1, _, hs1, ht1⟩
  · cases h0
  obtain ⟨a0, c0, rfl⟩ := own_slice hi0
  have hC : Cel W g cur 49 := hcur
  have hC1 : Cel W g1 cur1 3 := hcur1
  have hgg : g ≠ g1 := by
    rcases hne with h | h
    · cases h
    · exact fun e => h (by rw [e]; rfl)
  have hget : ∀ j, j < 26 → cur[j]? = ([(tinyS[0], Value.slice a0 (0 : Nat) c0), (tinyS[1], Value.slice (some ⟨g1, 0, none⟩) 1 c1)].flatMap fun p => stpC p.1 p.2)[j]? := by
    intro j hj
    rw [← Array.getElem?_toList, ← List.getElem?_take_of_lt (j := 2 * 13) (by omega)]
    exact congrArg (·[j]?) ht
  have hget1 : cur1[0]? = some (.int .i64 0) := by
    rw [← Array.getElem?_toList, ← List.getElem?_take_of_lt (j := 1 * 1) (by omega)]
    exact congrArg (·[0]?) ht1
  refine ⟨g, c, g1, c1, rfl, hB, hB1, (hC.cell 25).trans (hget 25 (by omega)), (hC1.cell 0).trans hget1, hC1.free 0, (hC.cell 24).trans (hget 24 (by omega)), hC.free 24, ?_, ?_⟩
  · have k1 := hC.far (p := ⟨g1, 0, none⟩) hgg (.int .i64 1)
    have k2 := hC1.set (j := 0) (u := .int .i64 1) rfl
    refine srow_cel (L := [(tinyS[0], .slice a0 0 c0), ((tinyG, 0, [1]), .slice (some ⟨g1, 0, none⟩) 1 c1)]) k1 ht hn ?_
    intro p hp
    rcases List.mem_cons.1 hp with rfl | hp
    · exact KRow.nil _ _
    · obtain rfl := List.mem_singleton.1 hp
      refine ⟨_, _, rfl, hn1, fun _ => ⟨g1, 0, rfl, fun k hk => ?_⟩⟩
      obtain rfl : k = 0 := by have : k < 1 := hk; omega
      refine (k2.cell 0).trans ?_
      rw [Array.getElem?_setIfInBounds_self_of_lt]
      · rfl
      · exact (Array.getElem?_eq_some_iff.1 hget1).1
  · have k1 := hC.set (j := 24) (u := .int .i64 1) rfl
    have k2 := hC1.far (p := ⟨g, 24, none⟩) hgg.symm (.int .i64 1)
    refine srow_cel (L := [(tinyS[0], .slice a0 0 c0), ((tinyG, 1, [0]), .slice (some ⟨g1, 0, none⟩) 1 c1)]) k1 ?_ hn ?_
    · rw [Array.toList_setIfInBounds, List.take_set]
      exact (congrArg (fun l : List Value => l.set 24 (.int .i64 1)) ht).trans rfl
    · intro p hp
      rcases List.mem_cons.1 hp with rfl | hp
      · exact KRow.nil _ _
      · obtain rfl := List.mem_singleton.1 hp
        refine ⟨_, _, rfl, hn1, fun _ => ⟨g1, 0, rfl, fun k hk => ?_⟩⟩
        obtain rfl : k = 0 := by have : k < 1 := hk; omega
        exact (k2.cell 0).trans hget1
end Go.Proofs.YtdlnmkdbjgbimaaGreatDoor
