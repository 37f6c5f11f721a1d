/- vouchsafekit.Own of ints, OwnSteps, OwnClauses; rows of the call's own, read as rows of steps and clauses. -/
import Derived.Test.YtdlnmkdbjgbimaaDoorNest
import Derived.Test.YtdlnmkdbjgbimaaDoorHeldM
import Derived.Test.YtdlnmkdbjgbimaaDoorInv
namespace Go.Proofs.YtdlnmkdbjgbimaaDoor
open Go.RowKit

theorem take_more {α : Type} (L : List α) (k : Nat) (h : k < L.length) : L.take k ++ [L[k]] = L.take (k + 1) := by rw [List.take_succ_eq_append_getElem h]
def intL (x : Int) : List Value := [.int .i64 x]
theorem int_reads {W : World} {a : Option Addr} {n c : Nat} {L : List Int} (h : IRow W (.slice a n c) L) : Reads W W.heap.size 1 a n (L.flatMap intL) :=
  krow_reads (f := intL) (by decide) (fun _ => rfl) (fun b o x hx j u hu => by
    match j, hu with
    | 0, hu => have e : Value.int .i64 x = u := by simpa [intL] using hu
               rw [← e]; exact hx) h
theorem intL_one (x : Int) : ∀ u ∈ intL x, u.oneCell' = true := by simp [intL, Value.oneCell']
theorem own_int_info : (Tryd.prog.info? 3).map (fun i => (i.zero, i.size, i.bytes)) = some (some (.int .i64 0), 1, 8) := by kernel_rfl
set_option maxHeartbeats 400000 in
theorem own_int (v : Value) (L : List Int) (w : World) (hv : IRow w v L) (hm : L.length ≤ 1000000) :
    Calls Tryd.prog 29 #[v] w (NewRow 3 1 w L.length (L.flatMap intL)) := by
  obtain ⟨i0, hi, hz0, hz1, hz2⟩ := info_parts own_int_info
  have HI := Lib.hid (And.intro hi (And.intro hz0 (And.intro hz1 hz2)))
  obtain ⟨a, c, rfl⟩ := hv.slice
  have HR := Lib.hid (int_reads (inext hv ((Since.refl w).alloc (.cells #[] 3))))
  clear hi hz0 hz1 hz2 hv
  go_enter Tryd.func29, Tryd.ntmps29
  go_wp2_with (at_builtin; refine wpList_append_any _ rfl (.tmp 3) (.tmp 4) 39 rfl w.heap.size 3 i0 (.int .i64 0) 1 8 Tryd.underlying39 HI.out.1 HI.out.2.1 HI.out.2.2.1 HI.out.2.2.2 rfl (by decide) _ 0 [] rfl (own_made0 w 3 1) _ a L.length c (L.flatMap intL) rfl HR.out ?c1 ?c2 ?c3 ?c4 ?_)
  case c1 => exact flat_oneK intL_one L
  case c2 => unfold maxLen; omega
  case c3 => omega
  case c4 => simp
  intro v' w' hown hgrow _
  have hB : Since w w' := Below.grown ((Since.refl w).alloc _) hgrow (by simp) (own_ge (own_made0 w 3 1))
  clear HR hgrow
  go_wp2_with fail
  go_ret
  refine ⟨_, rfl, ?_, hB⟩
  simpa using hown
section
variable {P : Program} {md : Region.Mode} {ops : Array Oper} {Q : Exit → Act → World → Prop} {S : World → Prop} {i j d d' fuel : Nat} {oi oj : Oper} {listed : Array Bool} {L : List Value} {ds : List Deferred} {w : World}
/-- Two may come first: one yields a value, the other is a call. -/
theorem hx_two_vc (v : Value) (w1 : World) (f : FuncId) (args : Array Value) {Rl : Ending → World → Prop} (hi : ops[i]? = some oi) (hj : ops[j]? = some oj) (hr : Region.ready md ops listed = [i, j]) (hwi : Region.wanted oi (yielded ops L.toArray) = true) (hwj : Region.wanted oj (yielded ops L.toArray) = true)
    (hd : oi.dst = some d) (hrun : (execOp (Act.eval ⟨L.toArray, ds⟩) oi).run P w = .ok (.value v) w1) (hS : S w1)
    (hd' : oj.dst = some d') (hrun' : (execOp (Act.eval ⟨L.toArray, ds⟩) oj).run P w = .ok (.enter f args) w) (hc : Calls P f args w Rl)
    (h1 : wpAnyH P md ops Q S fuel (listed.setIfInBounds i true) ⟨(L.set d v).toArray, ds⟩ w1)
    (h2 : ∀ e w', Rl e w' → ∃ v, e = .returned v ∧ S w' ∧ wpAnyH P md ops Q S fuel (listed.setIfInBounds j true) ⟨(L.set d' v).toArray, ds⟩ w') : wpAnyH P md ops Q S (fuel + 1) listed ⟨L.toArray, ds⟩ w :=
  hx_two hi hj hr hwi hwj (wp_value hd hrun ⟨hS, h1⟩) (wp_calls f args hd' hrun' hc fun e w' hR => by
    obtain ⟨v, he, h3, h4⟩ := h2 e w' hR
    exact ⟨v, he, h3, h4⟩)
theorem hx_two_cv (f : FuncId) (args : Array Value) {Rl : Ending → World → Prop} (v : Value) (w1 : World) (hi : ops[i]? = some oi) (hj : ops[j]? = some oj) (hr : Region.ready md ops listed = [i, j]) (hwi : Region.wanted oi (yielded ops L.toArray) = true) (hwj : Region.wanted oj (yielded ops L.toArray) = true)
    (hd' : oi.dst = some d') (hrun' : (execOp (Act.eval ⟨L.toArray, ds⟩) oi).run P w = .ok (.enter f args) w) (hc : Calls P f args w Rl)
    (hd : oj.dst = some d) (hrun : (execOp (Act.eval ⟨L.toArray, ds⟩) oj).run P w = .ok (.value v) w1) (hS : S w1)
    (h2 : ∀ e w', Rl e w' → ∃ v, e = .returned v ∧ S w' ∧ wpAnyH P md ops Q S fuel (listed.setIfInBounds i true) ⟨(L.set d' v).toArray, ds⟩ w')
    (h1 : wpAnyH P md ops Q S fuel (listed.setIfInBounds j true) ⟨(L.set d v).toArray, ds⟩ w1) : wpAnyH P md ops Q S (fuel + 1) listed ⟨L.toArray, ds⟩ w :=
  hx_two hi hj hr hwi hwj (wp_calls f args hd' hrun' hc fun e w' hR => by
    obtain ⟨v, he, h3, h4⟩ := h2 e w' hR
    exact ⟨v, he, h3, h4⟩) (wp_value hd hrun ⟨hS, h1⟩)
theorem hx_two_vv (v : Value) (w1 : World) (v2 : Value) (w2 : World) (hi : ops[i]? = some oi) (hj : ops[j]? = some oj) (hr : Region.ready md ops listed = [i, j]) (hwi : Region.wanted oi (yielded ops L.toArray) = true) (hwj : Region.wanted oj (yielded ops L.toArray) = true)
    (hd : oi.dst = some d) (hrun : (execOp (Act.eval ⟨L.toArray, ds⟩) oi).run P w = .ok (.value v) w1) (hS : S w1)
    (hd' : oj.dst = some d') (hrun' : (execOp (Act.eval ⟨L.toArray, ds⟩) oj).run P w = .ok (.value v2) w2) (hS2 : S w2)
    (h1 : wpAnyH P md ops Q S fuel (listed.setIfInBounds i true) ⟨(L.set d v).toArray, ds⟩ w1)
    (h2 : wpAnyH P md ops Q S fuel (listed.setIfInBounds j true) ⟨(L.set d' v2).toArray, ds⟩ w2) : wpAnyH P md ops Q S (fuel + 1) listed ⟨L.toArray, ds⟩ w :=
  hx_two hi hj hr hwi hwj (wp_value hd hrun ⟨hS, h1⟩) (wp_value hd' hrun' ⟨hS2, h2⟩)
/-- An append to a row of the call's own. -/
theorem hx_append (s x : Operand) (t : TypeId) (base : Nat) (e : TypeId) (ii : TypeInfo) (z : Value) (size bytes : Nat) (v : Value) (n : Nat) (xs : List Value) (B : Nat) (A : Option Addr) (m c : Nat) (news : List Value)
    (hi : ops[i]? = some oi) (hd : oi.dst = some d) (hr : Region.ready md ops listed = [i]) (hw : Region.wanted oi (yielded ops L.toArray) = true)
    (ho : oi.op = .call { callee := .builtin .append, args := #[s, x], argTypes := #[t, t] }) (ht : P.underlying t = some (.slice e)) (hii : P.info? e = some ii) (hz : ii.zero = some z)
    (hsize : ii.size = size) (hby : ii.bytes = bytes) (hzs : z.cells.size = size) (hsz : 0 < size)
    (hs : Act.eval ⟨L.toArray, ds⟩ s = v) (hown : w.ownsRow base e size v n xs)
    (hx : Act.eval ⟨L.toArray, ds⟩ x = .slice A m c) (hrd : Reads w B size A m news) (h1 : ∀ u ∈ news, u.oneCell' = true)
    (h63 : n + m ≤ maxLen) (hbytes : (n + m) * bytes ≤ 140737488355328) (hbase : base ≤ w.heap.size)
    (h : ∀ v' w', w'.ownsRow base e size v' (n + m) (xs ++ news) → w.grownBy w' v.ownBlock → (v'.ownBlock = v.ownBlock ∨ v'.ownBlock = some w.heap.size) → S w' ∧ wpAnyH P md ops Q S fuel (listed.setIfInBounds i true) ⟨(L.set d v').toArray, ds⟩ w') : wpAnyH P md ops Q S (fuel + 1) listed ⟨L.toArray, ds⟩ w :=
  hx_step hi hr hw (wp_append_any w s x t ho base e ii z size bytes ht hii hz hsize hby hzs hsz v n xs hs hown B A m c news hx hrd h1 h63 hbytes hbase fun v' w' a b c => by
    rw [hd, put_list]
    exact h v' w' a b c)
/-- An append to a row of the call's own, as one of two operations that may come first. -/
theorem wp_appendK {K : Act → World → Prop} (s x : Operand) (t : TypeId) (base : Nat) (e : TypeId) (ii : TypeInfo) (z : Value) (size bytes : Nat) (v : Value) (n : Nat) (xs : List Value) (B : Nat) (A : Option Addr) (m c : Nat) (news : List Value)
    (hd : oi.dst = some d)
    (ho : oi.op = .call { callee := .builtin .append, args := #[s, x], argTypes := #[t, t] }) (ht : P.underlying t = some (.slice e)) (hii : P.info? e = some ii) (hz : ii.zero = some z)
    (hsize : ii.size = size) (hby : ii.bytes = bytes) (hzs : z.cells.size = size) (hsz : 0 < size)
    (hs : Act.eval ⟨L.toArray, ds⟩ s = v) (hown : w.ownsRow base e size v n xs)
    (hx : Act.eval ⟨L.toArray, ds⟩ x = .slice A m c) (hrd : Reads w B size A m news) (h1 : ∀ u ∈ news, u.oneCell' = true)
    (h63 : n + m ≤ maxLen) (hbytes : (n + m) * bytes ≤ 140737488355328) (hbase : base ≤ w.heap.size)
    (h : ∀ v' w', w'.ownsRow base e size v' (n + m) (xs ++ news) → w.grownBy w' v.ownBlock → (v'.ownBlock = v.ownBlock ∨ v'.ownBlock = some w.heap.size) → K ⟨(L.set d v').toArray, ds⟩ w') : Oper.wp P oi ⟨L.toArray, ds⟩ w K Q :=
  wp_append_any w s x t ho base e ii z size bytes ht hii hz hsize hby hzs hsz v n xs hs hown B A m c news hx hrd h1 h63 hbytes hbase fun v' w' a b c => by
    rw [hd, put_list]
    exact h v' w' a b c
end
theorem apart_lt {W : World} {B : Nat} {e : TypeId} {K n : Nat} {u v : Value} {xs : List Value} (h : W.ownsRow B e K u n xs) (hl : ∀ b, v.ownBlock = some b → b < B) : apartV u v := by
  unfold apartV
  cases hb : u.ownBlock with
  | none => exact .inl rfl
  | some b =>
    refine .inr fun hh => ?_
    have l1 := (h.lt b hb).1
    have l2 := hl b hh.symm
    omega
theorem lt_apart {W : World} {B : Nat} {e : TypeId} {K n : Nat} {u v : Value} {xs : List Value} (h : W.ownsRow B e K u n xs) (hl : ∀ b, v.ownBlock = some b → b < B) : v.ownBlock = none ∨ v.ownBlock ≠ u.ownBlock := by
  cases hb : v.ownBlock with
  | none => exact .inl rfl
  | some b =>
    refine .inr fun hh => ?_
    have l1 := (h.lt b hh.symm).1
    have l2 := hl b hb
    omega
theorem reads_cel {W : World} {g : Nat} {cs : Array Value} {e : TypeId} {K : Nat} (h : Cel W g cs e) (hK : cs.size = K) : Reads W W.heap.size K (some ⟨g, 0, none⟩) 1 cs.toList := by
  refine ⟨by simp [hK], fun _ => ⟨_, rfl, h.lt, fun j u hu => ?_⟩⟩
  rw [add_form, Nat.zero_add, h.cell j, ← hu, Array.getElem?_toList]
theorem Nest.base {α : Type} {W : World} {B B' : Nat} {e1 : TypeId} {K1 : Nat} {c : α → Value → List Value} {e2 : TypeId} {K2 : Nat} {cnt : α → Nat} {inn : α → List Value} {v : Value} {L : List (α × Value)} (h : Nest W B e1 K1 c e2 K2 cnt inn v L) (hb : B' ≤ B) : Nest W B' e1 K1 c e2 K2 cnt inn v L :=
  ⟨own_base h.row hb, fun p hp => own_base (h.ins p hp) hb, h.apart⟩
theorem reads_new (W : World) (cs : Array Value) (e : TypeId) (K : Nat) (hK : cs.size = K) : Reads (W.alloc (.cells cs e)) (W.alloc (.cells cs e)).heap.size K (some ⟨W.heap.size, 0, none⟩) 1 cs.toList := by
  refine ⟨by simp [hK], fun _ => ⟨_, rfl, by simp, fun j u hu => ?_⟩⟩
  rw [add_form, Nat.zero_add, World.cell?_alloc_new]
  rw [← hu, Array.getElem?_toList]
theorem krow_own {α : Type} {K : Nat} {R : World → Nat → Nat → α → Prop} {f : α → List Value} {W : World} {B : Nat} {e : TypeId} {v : Value} {L : List α} (hf : ∀ x, (f x).length = K)
    (hR : ∀ b o x, x ∈ L → (∀ j u, (f x)[j]? = some u → W.cell? ⟨b, o + j, none⟩ = some u) → R W b o x) (h : W.ownsRow B e K v L.length (L.flatMap f)) : KRow K R W v L := by
  obtain ⟨a, c, rfl⟩ := own_slice h
  rcases row_of_own h with ⟨h1, h2, h3⟩ | ⟨b, o, c', h1, h2, h3⟩
  · injection h1 with e1 e2 e3
    subst e1 e3
    have : L = [] := List.eq_nil_of_length_eq_zero h2
    subst this
    exact KRow.nil _ _
  · injection h1 with e1 e2 e3
    subst e1 e3
    refine ⟨_, _, rfl, h2, fun h0 => ⟨b, o, rfl, fun k hk => hR _ _ _ (List.getElem_mem hk) fun j u hu => ?_⟩⟩
    have hj : j < K := by rw [← hf L[k]]; exact (List.getElem?_eq_some_iff.1 hu).1
    have hl : k * K + j < (L.flatMap f).length := by
      rw [flat_len hf]
      have : (k + 1) * K ≤ L.length * K := Nat.mul_le_mul_right K hk
      rw [Nat.add_mul, Nat.one_mul] at this
      omega
    have := h3 (k * K + j) hl
    rw [Nat.add_assoc, this, ← List.getElem?_eq_getElem hl, flat_at hf L k hk j hj, hu]
theorem own_arow {W : World} {B : Nat} {v : Value} {L : List Atm} (h : W.ownsRow B 29 11 v L.length (L.flatMap atmL)) : ARow W v L :=
  krow_own (fun _ => rfl) (fun _ _ _ _ hc j u hu => hc j u (by rw [← hu]; exact Array.getElem?_toList)) h
theorem own_irow {W : World} {B : Nat} {v : Value} {L : List Int} (h : W.ownsRow B 3 1 v L.length (L.flatMap intL)) : IRow W v L :=
  krow_own (fun _ => rfl) (fun _ _ _ _ hc => hc 0 _ rfl) h
/-- A row of pairs, read without the second parts. -/
theorem krow_fst {α β : Type} {K : Nat} {R : World → Nat → Nat → α → Prop} {W : World} {v : Value} {L : List (α × β)} (h : KRow K (fun W b o p => R W b o p.1) W v L) : KRow K R W v (L.map Prod.fst) := by
  obtain ⟨a, c, rfl, h2, h3⟩ := h
  refine ⟨a, c, by rw [List.length_map], by rw [List.length_map]; exact h2, fun h0 => ?_⟩
  rw [List.length_map] at h0
  obtain ⟨b, o, h4, h5⟩ := h3 h0
  refine ⟨b, o, h4, fun k hk => ?_⟩
  rw [List.length_map] at hk
  rw [List.getElem_map]
  exact h5 k hk
def rulC (x : Cls) (u : Value) : List Value := (atmC x.1).toList ++ [u]
def stpC (x : Stp) (u : Value) : List Value := (atmC x.1).toList ++ [.int .i64 x.2.1, u]
abbrev NestK (W : World) (B : Nat) := Nest W B 31 12 rulC 29 11 (fun x => x.2.length) (fun x => x.2.flatMap atmL)
abbrev NestS (W : World) (B : Nat) := Nest W B 41 13 stpC 3 1 (fun x => x.2.2.length) (fun x => x.2.2.flatMap intL)
theorem nest_rrow {W : World} {B : Nat} {v : Value} {L : List ((Atm × List Atm) × Value)} (h : NestK W B v L) : RRow W v (L.map Prod.fst) :=
  krow_fst (krow_own (f := fun p => rulC p.1 p.2) (fun _ => rfl) (fun _ _ p hp hc => ⟨fun j u hu => hc j u (by
    show ((atmC p.1.1).toList ++ [p.2])[j]? = some u
    have hj : j < (atmC p.1.1).toList.length := by rw [Array.length_toList]; exact (Array.getElem?_eq_some_iff.1 hu).1
    rw [List.getElem?_append_left hj, Array.getElem?_toList]; exact hu), p.2, hc 11 _ rfl, own_arow (h.ins p hp)⟩) h.row)
theorem nest_srow {W : World} {B : Nat} {v : Value} {L : List (Stp × Value)} (h : NestS W B v L) : SRow W v (L.map Prod.fst) :=
  krow_fst (krow_own (f := fun p => stpC p.1 p.2) (fun _ => rfl) (fun _ _ p hp hc => ⟨fun j u hu => hc j u (by
    show ((atmC p.1.1).toList ++ [.int .i64 p.1.2.1, p.2])[j]? = some u
    have hj : j < (atmC p.1.1).toList.length := by rw [Array.length_toList]; exact (Array.getElem?_eq_some_iff.1 hu).1
    rw [List.getElem?_append_left hj, Array.getElem?_toList]; exact hu), hc 11 _ rfl, p.2, hc 12 _ rfl, own_irow (h.ins p hp)⟩) h.row)
theorem rulInfo : (Tryd.prog.info? 31).map (fun i => (i.zero, i.size, i.bytes)) = some (some (.agg #[.string ByteArray.empty, .string ByteArray.empty, .int .i64 0, .bool false, .string ByteArray.empty, .bool false, .string ByteArray.empty, .bool false, .string ByteArray.empty, .bool false, .string ByteArray.empty, .slice none 0 0]), 12, 160) := by kernel_rfl
theorem stpInfo : (Tryd.prog.info? 41).map (fun i => (i.zero, i.size, i.bytes)) = some (some (.agg #[.string ByteArray.empty, .string ByteArray.empty, .int .i64 0, .bool false, .string ByteArray.empty, .bool false, .string ByteArray.empty, .bool false, .string ByteArray.empty, .bool false, .string ByteArray.empty, .int .i64 0, .slice none 0 0]), 13, 168) := by kernel_rfl
/-- Of the call's own, so far. -/
def OStp (w W : World) (v : Value) (L : List Stp) : Prop := ∃ N, N.map Prod.fst = L ∧ NestS W w.heap.size v N ∧ Since w W
def NewStps (w : World) (L : List Stp) (e : Ending) (W : World) : Prop := ∃ v, e = .returned v ∧ OStp w W v L
set_option maxHeartbeats 0 in
set_option maxRecDepth 100000 in
theorem ownsteps_any (v : Value) (L : List Stp) (w : World) (hv : SRow w v L) (hm : L.length ≤ 1000000) (hfT : ∀ t ∈ L, t.2.2.length ≤ 1000000) :
    Calls Tryd.prog 11 #[v] w (NewStps w L) := by
  obtain ⟨i2, hi, hz0, hz1, hz2⟩ := info_parts stpInfo
  have I2 := Lib.hid (And.intro hi (And.intro hz0 (And.intro hz1 hz2)))
  clear hi hz0 hz1 hz2
  obtain ⟨a, lc, rfl⟩ := hv.slice
  have HV := Lib.hid hv
  have HF := Lib.hid hfT
  clear hv hfT
  go_enter Tryd.func11, Tryd.ntmps11
  go_wp2_with fail
  go_loopw [3, 4] (fun v m wr => ∃ k : Nat, k ≤ L.length ∧ m = .int .i64 (k : Int) ∧ OStp w wr v (L.take k)) (fun _ m _ => L.length - (intOf m).toNat)
  case atStart => exact ⟨0, by omega, rfl, [], rfl, Nest.nil, Since.refl _⟩
  case round =>
  obtain ⟨k, hk, rfl, hO⟩ := hrel
  by_cases hlt : k < L.length
  · have hlt2 : (k : Int) < (L.length : Int) := by omega
    have hlt0 : (0 : Int) ≤ (k : Int) := by omega
    go_wp2_with fail
    obtain ⟨b, o, e1, hc, hat⟩ := HV.out.get (by omega)
    have d1 := hat k hlt
    have hfx := HF.out _ (List.getElem_mem hlt)
    have htk : Hid (L.take k ++ [L[k]] = L.take (k + 1)) := take_more L k hlt
    obtain ⟨⟨⟨x_s, x_p, x_n, ⟨x_v0, x_l0⟩, ⟨x_v1, x_l1⟩, ⟨x_v2, x_l2⟩, ⟨x_v3, x_l3⟩⟩, x_c, T⟩, hx⟩ : ∃ x, Hid (x = L[k]) := ⟨L[k], rfl⟩
    rw [← hx.out] at d1 hfx htk
    obtain ⟨d1, d2, u, d3, d4⟩ := d1
    obtain ⟨ua, uc, rfl⟩ := d4.slice
    simp only at d2 d3 hfx
    have xA : At w b (o + k * 13) #[.string ⟨x_s.toArray⟩, .string ⟨x_p.toArray⟩, .int .i64 x_n, .bool x_v0, .string ⟨x_l0.toArray⟩, .bool x_v1, .string ⟨x_l1.toArray⟩, .bool x_v2, .string ⟨x_l2.toArray⟩, .bool x_v3, .string ⟨x_l3.toArray⟩] := d1
    have uA : At w b (o + k * 13 + 11) #[.int .i64 x_c, .slice ua T.length uc] := at_two d2 d3
    have HD3 := Lib.hid d4
    clear d1 d2 d3 d4
    have hlT : T.length ≤ 1000000 := by omega
    have hlk : (L.take k).length = k := by rw [List.length_take]; omega
    subst e1
    clear hat hfx hx
    obtain ⟨N, eN, hN, hSr⟩ := hO
    obtain ⟨av, cv, rfl⟩ := own_slice hN.row
    have hNl : N.length = k := by rw [← List.length_map (f := Prod.fst), eN, hlk]
    have hb00 : Since w wr.drew := (hSr).drew
    replace hN := hN.next ((Since.refl wr).drew)
    refine hx_begin (S := fun W => Since w W) (by kernel_rfl) hb00 (by kernel_rfl) (fun _ _ _ _ _ h => h) (fun hns hQ => ?_)
    refine hx_take (i := 0) (oi := _) (v := .slice av N.length cv) rfl rfl hns (by kernel_rfl) (by kernel_rfl) hQ (by kernel_rfl) (fun _ _ => by kernel_rfl) hb00 ?_
    refine hx_take (i := 1) (oi := _) (v := .slice (some ⟨b, o, none⟩) L.length lc) rfl rfl hns (by kernel_rfl) (by kernel_rfl) hQ (by kernel_rfl) (fun _ _ => by kernel_rfl) hb00 ?_
    refine hx_take (i := 2) (oi := _) (v := .int .i64 (k : Int)) rfl rfl hns (by kernel_rfl) (by kernel_rfl) hQ (by kernel_rfl) (fun _ _ => by kernel_rfl) hb00 ?_
    refine hx_take (i := 3) (oi := _) (v := .pointer (some ⟨b, o + k * 13, none⟩)) rfl rfl hns (by kernel_rfl) (by kernel_rfl) hQ (by kernel_rfl) (fun W _ => ix_sl (n := L.length) (c := lc) (K := 13) rfl (by kernel_rfl) (by kernel_rfl) (by kernel_rfl) rfl hlt W) hb00 ?_
    refine hx_take (i := 4) (oi := _) (v := .pointer (some ⟨b, o + k * 13, none⟩)) rfl rfl hns (by kernel_rfl) (by kernel_rfl) hQ (by kernel_rfl) (fun _ _ => by kernel_rfl) hb00 ?_
    refine hx_take (i := 5) (oi := _) (v := .agg #[.string ⟨x_s.toArray⟩, .string ⟨x_p.toArray⟩, .int .i64 x_n, .bool x_v0, .string ⟨x_l0.toArray⟩, .bool x_v1, .string ⟨x_l1.toArray⟩, .bool x_v2, .string ⟨x_l2.toArray⟩, .bool x_v3, .string ⟨x_l3.toArray⟩]) rfl rfl hns (by kernel_rfl) (by kernel_rfl) hQ (by kernel_rfl) (fun W hW => ld_at rfl (by kernel_rfl) (by kernel_rfl) (by kernel_rfl) W (xA.next hW)) hb00 ?_
    refine hx_take (i := 6) (oi := _) (v := .slice (some ⟨b, o, none⟩) L.length lc) rfl rfl hns (by kernel_rfl) (by kernel_rfl) hQ (by kernel_rfl) (fun _ _ => by kernel_rfl) hb00 ?_
    refine hx_take (i := 7) (oi := _) (v := .int .i64 (k : Int)) rfl rfl hns (by kernel_rfl) (by kernel_rfl) hQ (by kernel_rfl) (fun _ _ => by kernel_rfl) hb00 ?_
    refine hx_take (i := 8) (oi := _) (v := .pointer (some ⟨b, o + k * 13, none⟩)) rfl rfl hns (by kernel_rfl) (by kernel_rfl) hQ (by kernel_rfl) (fun W _ => ix_sl (n := L.length) (c := lc) (K := 13) rfl (by kernel_rfl) (by kernel_rfl) (by kernel_rfl) rfl hlt W) hb00 ?_
    refine hx_take (i := 9) (oi := _) (v := .pointer (some ⟨b, o + k * 13 + 11, none⟩)) rfl rfl hns (by kernel_rfl) (by kernel_rfl) hQ (by kernel_rfl) (fun _ _ => by kernel_rfl) hb00 ?_
    refine hx_take (i := 10) (oi := _) (v := .int .i64 x_c) rfl rfl hns (by kernel_rfl) (by kernel_rfl) hQ (by kernel_rfl) (fun W hW => ld_one rfl (by kernel_rfl) (by kernel_rfl) W (uA.next hW 0 _ rfl)) hb00 ?_
    refine hx_take (i := 11) (oi := _) (v := .slice (some ⟨b, o, none⟩) L.length lc) rfl rfl hns (by kernel_rfl) (by kernel_rfl) hQ (by kernel_rfl) (fun _ _ => by kernel_rfl) hb00 ?_
    refine hx_take (i := 12) (oi := _) (v := .int .i64 (k : Int)) rfl rfl hns (by kernel_rfl) (by kernel_rfl) hQ (by kernel_rfl) (fun _ _ => by kernel_rfl) hb00 ?_
    refine hx_take (i := 13) (oi := _) (v := .pointer (some ⟨b, o + k * 13, none⟩)) rfl rfl hns (by kernel_rfl) (by kernel_rfl) hQ (by kernel_rfl) (fun W _ => ix_sl (n := L.length) (c := lc) (K := 13) rfl (by kernel_rfl) (by kernel_rfl) (by kernel_rfl) rfl hlt W) hb00 ?_
    refine hx_take (i := 14) (oi := _) (v := .pointer (some ⟨b, o + k * 13 + 12, none⟩)) rfl rfl hns (by kernel_rfl) (by kernel_rfl) hQ (by kernel_rfl) (fun _ _ => by kernel_rfl) hb00 ?_
    refine hx_take (i := 15) (oi := _) (v := .slice ua T.length uc) rfl rfl hns (by kernel_rfl) (by kernel_rfl) hQ (by kernel_rfl) (fun W hW => ld_one rfl (by kernel_rfl) (by kernel_rfl) W (uA.next hW 1 _ rfl)) hb00 ?_
    have hLT0 : ∀ p ∈ N, ∀ b, p.2.ownBlock = some b → b < wr.drew.heap.size := fun p hp b hb => ((hN.ins p hp).lt b hb).2
    refine hx_call (i := 16) (oi := _) 29 #[.slice ua T.length uc] rfl rfl (by kernel_rfl) (by kernel_rfl) (by kernel_rfl) (own_int _ T _ (inext HD3.out hb00) hlT) ?_
    rintro e wx61 ⟨vx, rfl, hU, hb⟩
    have hb01 : Since w wx61 := hb00.trans hb
    replace hN := hN.next hb
    have hBU : w.heap.size ≤ wr.drew.heap.size := (hb00).size
    have hLT : ∀ p ∈ N, ∀ b, p.2.ownBlock = some b → b < wr.drew.heap.size := hLT0
    clear hLT0
    obtain ⟨ax, cx, rfl⟩ := own_slice hU
    clear hb
    refine ⟨_, rfl, hb01, ?_⟩
    refine hx_take (i := 17) (oi := _) (v := .agg #[.string ⟨x_s.toArray⟩, .string ⟨x_p.toArray⟩, .int .i64 x_n, .bool x_v0, .string ⟨x_l0.toArray⟩, .bool x_v1, .string ⟨x_l1.toArray⟩, .bool x_v2, .string ⟨x_l2.toArray⟩, .bool x_v3, .string ⟨x_l3.toArray⟩, .int .i64 x_c, .slice ax T.length cx]) rfl rfl hns (by kernel_rfl) (by kernel_rfl) hQ (by kernel_rfl) (fun _ _ => by kernel_rfl) hb01 ?_
    have hb02 : Since w (wx61.alloc (.cells #[.string ⟨x_s.toArray⟩, .string ⟨x_p.toArray⟩, .int .i64 x_n, .bool x_v0, .string ⟨x_l0.toArray⟩, .bool x_v1, .string ⟨x_l1.toArray⟩, .bool x_v2, .string ⟨x_l2.toArray⟩, .bool x_v3, .string ⟨x_l3.toArray⟩, .int .i64 x_c, .slice ax T.length cx] 41)) := hb01.alloc _
    replace hN := hN.next ((Since.refl wx61).alloc (.cells #[.string ⟨x_s.toArray⟩, .string ⟨x_p.toArray⟩, .int .i64 x_n, .bool x_v0, .string ⟨x_l0.toArray⟩, .bool x_v1, .string ⟨x_l1.toArray⟩, .bool x_v2, .string ⟨x_l2.toArray⟩, .bool x_v3, .string ⟨x_l3.toArray⟩, .int .i64 x_c, .slice ax T.length cx] 41))
    replace hU := own_since hU ((Since.refl wx61).alloc (.cells #[.string ⟨x_s.toArray⟩, .string ⟨x_p.toArray⟩, .int .i64 x_n, .bool x_v0, .string ⟨x_l0.toArray⟩, .bool x_v1, .string ⟨x_l1.toArray⟩, .bool x_v2, .string ⟨x_l2.toArray⟩, .bool x_v3, .string ⟨x_l3.toArray⟩, .int .i64 x_c, .slice ax T.length cx] 41))
    refine hx_make (i := 18) (oi := _) (.slice (some ⟨wx61.heap.size, 0, none⟩) 1 1) (wx61.alloc (.cells #[.string ⟨x_s.toArray⟩, .string ⟨x_p.toArray⟩, .int .i64 x_n, .bool x_v0, .string ⟨x_l0.toArray⟩, .bool x_v1, .string ⟨x_l1.toArray⟩, .bool x_v2, .string ⟨x_l2.toArray⟩, .bool x_v3, .string ⟨x_l3.toArray⟩, .int .i64 x_c, .slice ax T.length cx] 41)) rfl rfl (by kernel_rfl) (by kernel_rfl) (by kernel_rfl) hb02 ?_
    refine hx_append (i := 19) (oi := _) (.tmp 11) (.tmp 29) 24 w.heap.size 41 i2 (.agg #[.string ByteArray.empty, .string ByteArray.empty, .int .i64 0, .bool false, .string ByteArray.empty, .bool false, .string ByteArray.empty, .bool false, .string ByteArray.empty, .bool false, .string ByteArray.empty, .int .i64 0, .slice none 0 0]) 13 168 (.slice av N.length cv) N.length _ _ (some ⟨wx61.heap.size, 0, none⟩) 1 1 [.string ⟨x_s.toArray⟩, .string ⟨x_p.toArray⟩, .int .i64 x_n, .bool x_v0, .string ⟨x_l0.toArray⟩, .bool x_v1, .string ⟨x_l1.toArray⟩, .bool x_v2, .string ⟨x_l2.toArray⟩, .bool x_v3, .string ⟨x_l3.toArray⟩, .int .i64 x_c, .slice ax T.length cx] rfl rfl (by kernel_rfl) (by kernel_rfl) rfl Tryd.underlying24 I2.out.1 I2.out.2.1 I2.out.2.2.1 I2.out.2.2.2 rfl (by decide) (by kernel_rfl) hN.row (by kernel_rfl) (reads_new _ #[.string ⟨x_s.toArray⟩, .string ⟨x_p.toArray⟩, .int .i64 x_n, .bool x_v0, .string ⟨x_l0.toArray⟩, .bool x_v1, .string ⟨x_l1.toArray⟩, .bool x_v2, .string ⟨x_l2.toArray⟩, .bool x_v3, .string ⟨x_l3.toArray⟩, .int .i64 x_c, .slice ax T.length cx] _ 13 rfl) (by simp [Value.oneCell']) (by unfold maxLen; omega) (by omega) (hb02).size ?_
    intro v4 w4 hown4 hg4 hb4
    have hb03 : Since w w4 := Below.grown hb02 hg4 (hb02).size (own_ge hN.row)
    obtain ⟨a4, c4, rfl⟩ := own_slice hown4
    have hN4 := hN.push (x := (((x_s, x_p, x_n, (x_v0, x_l0), (x_v1, x_l1), (x_v2, x_l2), (x_v3, x_l3)) : Atm), x_c, T)) hLT hU hBU hown4 rfl hg4 (by decide)
    clear hU hown4 hg4 hb4 hLT hN
    refine ⟨hb03, ?_⟩
    refine hx_take (i := 20) (oi := _) (v := .slice a4 (N.length + 1) c4) rfl rfl hns (by kernel_rfl) (by kernel_rfl) hQ (by kernel_rfl) (fun _ _ => by kernel_rfl) hb03 ?_
    refine wpAnyH_done (by kernel_rfl) ?_ _
    clear hns hQ
    simp only [List.set_cons_zero, List.set_cons_succ]
    have eX : (N ++ [((((x_s, x_p, x_n, (x_v0, x_l0), (x_v1, x_l1), (x_v2, x_l2), (x_v3, x_l3)) : Atm), x_c, T), Value.slice ax T.length cx)]).map Prod.fst = L.take (k + 1) := by rw [List.map_append, eN, ← htk.out]; rfl
    have hOP : OStp w w4 (.slice a4 (N.length + 1) c4) (L.take (k + 1)) := ⟨_, eX, hN4, hb03⟩
    clear hN4 eX
    go_wp2_with fail
    go_roundw
    case rel => exact ⟨k + 1, by omega, by go_num, hOP⟩
    case measure => simp [intOf]; omega
  have hlt2 : ¬ (k : Int) < (L.length : Int) := by omega
  rw [List.take_of_length_le (by omega)] at hO
  go_wp2_with fail
  go_ret
  exact ⟨_, rfl, hO⟩
/-- Of the call's own, so far. -/
def OCls (w W : World) (v : Value) (L : List Cls) : Prop := ∃ N, N.map Prod.fst = L ∧ NestK W w.heap.size v N ∧ Since w W
def NewClss (w : World) (L : List Cls) (e : Ending) (W : World) : Prop := ∃ v, e = .returned v ∧ OCls w W v L
set_option maxHeartbeats 0 in
set_option maxRecDepth 100000 in
theorem ownclauses_any (v : Value) (L : List Cls) (w : World) (hv : RRow w v L) (hm : L.length ≤ 1000000) (hfT : ∀ t ∈ L, t.2.length ≤ 1000000) :
    Calls Tryd.prog 12 #[v] w (NewClss w L) := by
  obtain ⟨i2, hi, hz0, hz1, hz2⟩ := info_parts rulInfo
  have I2 := Lib.hid (And.intro hi (And.intro hz0 (And.intro hz1 hz2)))
  clear hi hz0 hz1 hz2
  obtain ⟨a, lc, rfl⟩ := hv.slice
  have HV := Lib.hid hv
  have HF := Lib.hid hfT
  clear hv hfT
  go_enter Tryd.func12, Tryd.ntmps12
  go_wp2_with fail
  go_loopw [3, 4] (fun v m wr => ∃ k : Nat, k ≤ L.length ∧ m = .int .i64 (k : Int) ∧ OCls w wr v (L.take k)) (fun _ m _ => L.length - (intOf m).toNat)
  case atStart => exact ⟨0, by omega, rfl, [], rfl, Nest.nil, Since.refl _⟩
  case round =>
  obtain ⟨k, hk, rfl, hO⟩ := hrel
  by_cases hlt : k < L.length
  · have hlt2 : (k : Int) < (L.length : Int) := by omega
    have hlt0 : (0 : Int) ≤ (k : Int) := by omega
    go_wp2_with fail
    obtain ⟨b, o, e1, hc, hat⟩ := HV.out.get (by omega)
    have d1 := hat k hlt
    have hfx := HF.out _ (List.getElem_mem hlt)
    have htk : Hid (L.take k ++ [L[k]] = L.take (k + 1)) := take_more L k hlt
    obtain ⟨⟨⟨x_s, x_p, x_n, ⟨x_v0, x_l0⟩, ⟨x_v1, x_l1⟩, ⟨x_v2, x_l2⟩, ⟨x_v3, x_l3⟩⟩, T⟩, hx⟩ : ∃ x, Hid (x = L[k]) := ⟨L[k], rfl⟩
    rw [← hx.out] at d1 hfx htk
    obtain ⟨d1, u, d3, d4⟩ := d1
    obtain ⟨ua, uc, rfl⟩ := d4.slice
    simp only at d3 hfx
    have xA : At w b (o + k * 12) #[.string ⟨x_s.toArray⟩, .string ⟨x_p.toArray⟩, .int .i64 x_n, .bool x_v0, .string ⟨x_l0.toArray⟩, .bool x_v1, .string ⟨x_l1.toArray⟩, .bool x_v2, .string ⟨x_l2.toArray⟩, .bool x_v3, .string ⟨x_l3.toArray⟩] := d1
    have uA : At w b (o + k * 12 + 11) #[.slice ua T.length uc] := At.one d3
    have HD3 := Lib.hid d4
    clear d1 d3 d4
    have hlT : T.length ≤ 1000000 := by omega
    have hlk : (L.take k).length = k := by rw [List.length_take]; omega
    subst e1
    clear hat hfx hx
    obtain ⟨N, eN, hN, hSr⟩ := hO
    obtain ⟨av, cv, rfl⟩ := own_slice hN.row
    have hNl : N.length = k := by rw [← List.length_map (f := Prod.fst), eN, hlk]
    have hb10 : Since w wr.drew := (hSr).drew
    replace hN := hN.next ((Since.refl wr).drew)
    refine hx_begin (S := fun W => Since w W) (by kernel_rfl) hb10 (by kernel_rfl) (fun _ _ _ _ _ h => h) (fun hns hQ => ?_)
    refine hx_take (i := 0) (oi := _) (v := .slice av N.length cv) rfl rfl hns (by kernel_rfl) (by kernel_rfl) hQ (by kernel_rfl) (fun _ _ => by kernel_rfl) hb10 ?_
    refine hx_take (i := 1) (oi := _) (v := .slice (some ⟨b, o, none⟩) L.length lc) rfl rfl hns (by kernel_rfl) (by kernel_rfl) hQ (by kernel_rfl) (fun _ _ => by kernel_rfl) hb10 ?_
    refine hx_take (i := 2) (oi := _) (v := .int .i64 (k : Int)) rfl rfl hns (by kernel_rfl) (by kernel_rfl) hQ (by kernel_rfl) (fun _ _ => by kernel_rfl) hb10 ?_
    refine hx_take (i := 3) (oi := _) (v := .pointer (some ⟨b, o + k * 12, none⟩)) rfl rfl hns (by kernel_rfl) (by kernel_rfl) hQ (by kernel_rfl) (fun W _ => ix_sl (n := L.length) (c := lc) (K := 12) rfl (by kernel_rfl) (by kernel_rfl) (by kernel_rfl) rfl hlt W) hb10 ?_
    refine hx_take (i := 4) (oi := _) (v := .pointer (some ⟨b, o + k * 12, none⟩)) rfl rfl hns (by kernel_rfl) (by kernel_rfl) hQ (by kernel_rfl) (fun _ _ => by kernel_rfl) hb10 ?_
    refine hx_take (i := 5) (oi := _) (v := .agg #[.string ⟨x_s.toArray⟩, .string ⟨x_p.toArray⟩, .int .i64 x_n, .bool x_v0, .string ⟨x_l0.toArray⟩, .bool x_v1, .string ⟨x_l1.toArray⟩, .bool x_v2, .string ⟨x_l2.toArray⟩, .bool x_v3, .string ⟨x_l3.toArray⟩]) rfl rfl hns (by kernel_rfl) (by kernel_rfl) hQ (by kernel_rfl) (fun W hW => ld_at rfl (by kernel_rfl) (by kernel_rfl) (by kernel_rfl) W (xA.next hW)) hb10 ?_
    refine hx_take (i := 6) (oi := _) (v := .slice (some ⟨b, o, none⟩) L.length lc) rfl rfl hns (by kernel_rfl) (by kernel_rfl) hQ (by kernel_rfl) (fun _ _ => by kernel_rfl) hb10 ?_
    refine hx_take (i := 7) (oi := _) (v := .int .i64 (k : Int)) rfl rfl hns (by kernel_rfl) (by kernel_rfl) hQ (by kernel_rfl) (fun _ _ => by kernel_rfl) hb10 ?_
    refine hx_take (i := 8) (oi := _) (v := .pointer (some ⟨b, o + k * 12, none⟩)) rfl rfl hns (by kernel_rfl) (by kernel_rfl) hQ (by kernel_rfl) (fun W _ => ix_sl (n := L.length) (c := lc) (K := 12) rfl (by kernel_rfl) (by kernel_rfl) (by kernel_rfl) rfl hlt W) hb10 ?_
    refine hx_take (i := 9) (oi := _) (v := .pointer (some ⟨b, o + k * 12 + 11, none⟩)) rfl rfl hns (by kernel_rfl) (by kernel_rfl) hQ (by kernel_rfl) (fun _ _ => by kernel_rfl) hb10 ?_
    refine hx_take (i := 10) (oi := _) (v := .slice ua T.length uc) rfl rfl hns (by kernel_rfl) (by kernel_rfl) hQ (by kernel_rfl) (fun W hW => ld_one rfl (by kernel_rfl) (by kernel_rfl) W (uA.next hW 0 _ rfl)) hb10 ?_
    have hLT0 : ∀ p ∈ N, ∀ b, p.2.ownBlock = some b → b < wr.drew.heap.size := fun p hp b hb => ((hN.ins p hp).lt b hb).2
    refine hx_call (i := 11) (oi := _) 13 #[.slice ua T.length uc] rfl rfl (by kernel_rfl) (by kernel_rfl) (by kernel_rfl) (own_atm _ T _ (anext HD3.out hb10) hlT) ?_
    rintro e wx71 ⟨vx, rfl, hU, hb⟩
    have hb11 : Since w wx71 := hb10.trans hb
    replace hN := hN.next hb
    have hBU : w.heap.size ≤ wr.drew.heap.size := (hb10).size
    have hLT : ∀ p ∈ N, ∀ b, p.2.ownBlock = some b → b < wr.drew.heap.size := hLT0
    clear hLT0
    obtain ⟨ax, cx, rfl⟩ := own_slice hU
    clear hb
    refine ⟨_, rfl, hb11, ?_⟩
    refine hx_take (i := 12) (oi := _) (v := .agg #[.string ⟨x_s.toArray⟩, .string ⟨x_p.toArray⟩, .int .i64 x_n, .bool x_v0, .string ⟨x_l0.toArray⟩, .bool x_v1, .string ⟨x_l1.toArray⟩, .bool x_v2, .string ⟨x_l2.toArray⟩, .bool x_v3, .string ⟨x_l3.toArray⟩, .slice ax T.length cx]) rfl rfl hns (by kernel_rfl) (by kernel_rfl) hQ (by kernel_rfl) (fun _ _ => by kernel_rfl) hb11 ?_
    have hb12 : Since w (wx71.alloc (.cells #[.string ⟨x_s.toArray⟩, .string ⟨x_p.toArray⟩, .int .i64 x_n, .bool x_v0, .string ⟨x_l0.toArray⟩, .bool x_v1, .string ⟨x_l1.toArray⟩, .bool x_v2, .string ⟨x_l2.toArray⟩, .bool x_v3, .string ⟨x_l3.toArray⟩, .slice ax T.length cx] 31)) := hb11.alloc _
    replace hN := hN.next ((Since.refl wx71).alloc (.cells #[.string ⟨x_s.toArray⟩, .string ⟨x_p.toArray⟩, .int .i64 x_n, .bool x_v0, .string ⟨x_l0.toArray⟩, .bool x_v1, .string ⟨x_l1.toArray⟩, .bool x_v2, .string ⟨x_l2.toArray⟩, .bool x_v3, .string ⟨x_l3.toArray⟩, .slice ax T.length cx] 31))
    replace hU := own_since hU ((Since.refl wx71).alloc (.cells #[.string ⟨x_s.toArray⟩, .string ⟨x_p.toArray⟩, .int .i64 x_n, .bool x_v0, .string ⟨x_l0.toArray⟩, .bool x_v1, .string ⟨x_l1.toArray⟩, .bool x_v2, .string ⟨x_l2.toArray⟩, .bool x_v3, .string ⟨x_l3.toArray⟩, .slice ax T.length cx] 31))
    refine hx_make (i := 13) (oi := _) (.slice (some ⟨wx71.heap.size, 0, none⟩) 1 1) (wx71.alloc (.cells #[.string ⟨x_s.toArray⟩, .string ⟨x_p.toArray⟩, .int .i64 x_n, .bool x_v0, .string ⟨x_l0.toArray⟩, .bool x_v1, .string ⟨x_l1.toArray⟩, .bool x_v2, .string ⟨x_l2.toArray⟩, .bool x_v3, .string ⟨x_l3.toArray⟩, .slice ax T.length cx] 31)) rfl rfl (by kernel_rfl) (by kernel_rfl) (by kernel_rfl) hb12 ?_
    refine hx_append (i := 14) (oi := _) (.tmp 11) (.tmp 24) 22 w.heap.size 31 i2 (.agg #[.string ByteArray.empty, .string ByteArray.empty, .int .i64 0, .bool false, .string ByteArray.empty, .bool false, .string ByteArray.empty, .bool false, .string ByteArray.empty, .bool false, .string ByteArray.empty, .slice none 0 0]) 12 160 (.slice av N.length cv) N.length _ _ (some ⟨wx71.heap.size, 0, none⟩) 1 1 [.string ⟨x_s.toArray⟩, .string ⟨x_p.toArray⟩, .int .i64 x_n, .bool x_v0, .string ⟨x_l0.toArray⟩, .bool x_v1, .string ⟨x_l1.toArray⟩, .bool x_v2, .string ⟨x_l2.toArray⟩, .bool x_v3, .string ⟨x_l3.toArray⟩, .slice ax T.length cx] rfl rfl (by kernel_rfl) (by kernel_rfl) rfl Tryd.underlying22 I2.out.1 I2.out.2.1 I2.out.2.2.1 I2.out.2.2.2 rfl (by decide) (by kernel_rfl) hN.row (by kernel_rfl) (reads_new _ #[.string ⟨x_s.toArray⟩, .string ⟨x_p.toArray⟩, .int .i64 x_n, .bool x_v0, .string ⟨x_l0.toArray⟩, .bool x_v1, .string ⟨x_l1.toArray⟩, .bool x_v2, .string ⟨x_l2.toArray⟩, .bool x_v3, .string ⟨x_l3.toArray⟩, .slice ax T.length cx] _ 12 rfl) (by simp [Value.oneCell']) (by unfold maxLen; omega) (by omega) (hb12).size ?_
    intro v4 w4 hown4 hg4 hb4
    have hb13 : Since w w4 := Below.grown hb12 hg4 (hb12).size (own_ge hN.row)
    obtain ⟨a4, c4, rfl⟩ := own_slice hown4
    have hN4 := hN.push (x := (((x_s, x_p, x_n, (x_v0, x_l0), (x_v1, x_l1), (x_v2, x_l2), (x_v3, x_l3)) : Atm), T)) hLT hU hBU hown4 rfl hg4 (by decide)
    clear hU hown4 hg4 hb4 hLT hN
    refine ⟨hb13, ?_⟩
    refine hx_take (i := 15) (oi := _) (v := .slice a4 (N.length + 1) c4) rfl rfl hns (by kernel_rfl) (by kernel_rfl) hQ (by kernel_rfl) (fun _ _ => by kernel_rfl) hb13 ?_
    refine wpAnyH_done (by kernel_rfl) ?_ _
    clear hns hQ
    simp only [List.set_cons_zero, List.set_cons_succ]
    have eX : (N ++ [((((x_s, x_p, x_n, (x_v0, x_l0), (x_v1, x_l1), (x_v2, x_l2), (x_v3, x_l3)) : Atm), T), Value.slice ax T.length cx)]).map Prod.fst = L.take (k + 1) := by rw [List.map_append, eN, ← htk.out]; rfl
    have hOP : OCls w w4 (.slice a4 (N.length + 1) c4) (L.take (k + 1)) := ⟨_, eX, hN4, hb13⟩
    clear hN4 eX
    go_wp2_with fail
    go_roundw
    case rel => exact ⟨k + 1, by omega, by go_num, hOP⟩
    case measure => simp [intOf]; omega
  have hlt2 : ¬ (k : Int) < (L.length : Int) := by omega
  rw [List.take_of_length_le (by omega)] at hO
  go_wp2_with fail
  go_ret
  exact ⟨_, rfl, hO⟩
end Go.Proofs.YtdlnmkdbjgbimaaDoor
