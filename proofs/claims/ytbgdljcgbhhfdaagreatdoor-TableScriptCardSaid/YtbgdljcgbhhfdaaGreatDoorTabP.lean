/- TableWaits: its state; appends and stores in drawn regions. -/
import Derived.Test.YtbgdljcgbhhfdaaGreatDoorTabM
import Derived.Test.YtbgdljcgbhhfdaaGreatDoorInv
namespace Go.Proofs.YtbgdljcgbhhfdaaGreatDoor
open Go.RowKit Go.Maps Go.WideMaps

section
variable {P : Program} {md : Region.Mode} {ops : Array Oper} {Q : Exit → Act → World → Prop} {S : World → Prop} {i j d d' fuel : Nat} {oi oj : Oper} {listed : Array Bool} {L : List Value} {ds : List Deferred} {w : World}
/-- Two may come first: one yields a value, the other is a call. -/
theorem hx_two_vc (v : Value) (w1 : World) (f : FuncId) (args : Array Value) {Rl : Ending → World → Prop} (hi : ops[i]? = some oi) (hj : ops[j]? = some oj) (hr : Region.ready md ops listed = [i, j]) (hwi : Region.wanted oi (yielded ops L.toArray) = true) (hwj : Region.wanted oj (yielded ops L.toArray) = true)
    (hd : oi.dst = some d) (hrun : (execOp (Act.eval ⟨L.toArray, ds⟩) oi).run P w = .ok (.value v) w1) (hS : S w1)
    (hd' : oj.dst = some d') (hrun' : (execOp (Act.eval ⟨L.toArray, ds⟩) oj).run P w = .ok (.enter f args) w) (hc : Calls P f args w Rl)
    (h1 : wpAnyH P md ops Q S fuel (listed.setIfInBounds i true) ⟨(L.set d v).toArray, ds⟩ w1)
    (h2 : ∀ e w', Rl e w' → ∃ v, e = .returned v ∧ S w' ∧ wpAnyH P md ops Q S fuel (listed.setIfInBounds j true) ⟨(L.set d' v).toArray, ds⟩ w') : wpAnyH P md ops Q S (fuel + 1) listed ⟨L.toArray, ds⟩ w :=
  hx_two hi hj hr hwi hwj (wp_value hd hrun ⟨hS, h1⟩) (wp_calls f args hd' hrun' hc fun e w' hR => by
    obtain ⟨v, he, h3, h4⟩ := h2 e w' hR
    exact ⟨v, he, h3, h4⟩)
theorem hx_two_cv (f : FuncId) (args : Array Value) {Rl : Ending → World → Prop} (v : Value) (w1 : World) (hi : ops[i]? = some oi) (hj : ops[j]? = some oj) (hr : Region.ready md ops listed = [i, j]) (hwi : Region.wanted oi (yielded ops L.toArray) = true) (hwj : Region.wanted oj (yielded ops L.toArray) = true)
    (hd' : oi.dst = some d') (hrun' : (execOp (Act.eval ⟨L.toArray, ds⟩) oi).run P w = .ok (.enter f args) w) (hc : Calls P f args w Rl)
    (hd : oj.dst = some d) (hrun : (execOp (Act.eval ⟨L.toArray, ds⟩) oj).run P w = .ok (.value v) w1) (hS : S w1)
    (h2 : ∀ e w', Rl e w' → ∃ v, e = .returned v ∧ S w' ∧ wpAnyH P md ops Q S fuel (listed.setIfInBounds i true) ⟨(L.set d' v).toArray, ds⟩ w')
    (h1 : wpAnyH P md ops Q S fuel (listed.setIfInBounds j true) ⟨(L.set d v).toArray, ds⟩ w1) : wpAnyH P md ops Q S (fuel + 1) listed ⟨L.toArray, ds⟩ w :=
  hx_two hi hj hr hwi hwj (wp_calls f args hd' hrun' hc fun e w' hR => by
    obtain ⟨v, he, h3, h4⟩ := h2 e w' hR
    exact ⟨v, he, h3, h4⟩) (wp_value hd hrun ⟨hS, h1⟩)
theorem hx_two_vv (v : Value) (w1 : World) (v2 : Value) (w2 : World) (hi : ops[i]? = some oi) (hj : ops[j]? = some oj) (hr : Region.ready md ops listed = [i, j]) (hwi : Region.wanted oi (yielded ops L.toArray) = true) (hwj : Region.wanted oj (yielded ops L.toArray) = true)
    (hd : oi.dst = some d) (hrun : (execOp (Act.eval ⟨L.toArray, ds⟩) oi).run P w = .ok (.value v) w1) (hS : S w1)
    (hd' : oj.dst = some d') (hrun' : (execOp (Act.eval ⟨L.toArray, ds⟩) oj).run P w = .ok (.value v2) w2) (hS2 : S w2)
    (h1 : wpAnyH P md ops Q S fuel (listed.setIfInBounds i true) ⟨(L.set d v).toArray, ds⟩ w1)
    (h2 : wpAnyH P md ops Q S fuel (listed.setIfInBounds j true) ⟨(L.set d' v2).toArray, ds⟩ w2) : wpAnyH P md ops Q S (fuel + 1) listed ⟨L.toArray, ds⟩ w :=
  hx_two hi hj hr hwi hwj (wp_value hd hrun ⟨hS, h1⟩) (wp_value hd' hrun' ⟨hS2, h2⟩)
/-- An append to a row of the call's own. -/
theorem hx_append (s x : Operand) (t : TypeId) (base : Nat) (e : TypeId) (ii : TypeInfo) (z : Value) (size bytes : Nat) (v : Value) (n : Nat) (xs : List Value) (B : Nat) (A : Option Addr) (m c : Nat) (news : List Value)
    (hi : ops[i]? = some oi) (hd : oi.dst = some d) (hr : Region.ready md ops listed = [i]) (hw : Region.wanted oi (yielded ops L.toArray) = true)
    (ho : oi.op = .call { callee := .builtin .append, args := #[s, x], argTypes := #[t, t] }) (ht : P.underlying t = some (.slice e)) (hii : P.info? e = some ii) (hz : ii.zero = some z)
    (hsize : ii.size = size) (hby : ii.bytes = bytes) (hzs : z.cells.size = size) (hsz : 0 < size)
    (hs : Act.eval ⟨L.toArray, ds⟩ s = v) (hown : w.ownsRow base e size v n xs)
    (hx : Act.eval ⟨L.toArray, ds⟩ x = .slice A m c) (hrd : Reads w B size A m news) (h1 : ∀ u ∈ news, u.oneCell' = true)
    (h63 : n + m ≤ maxLen) (hbytes : (n + m) * bytes ≤ 140737488355328) (hbase : base ≤ w.heap.size)
    (h : ∀ v' w', w'.ownsRow base e size v' (n + m) (xs ++ news) → w.grownBy w' v.ownBlock → (v'.ownBlock = v.ownBlock ∨ v'.ownBlock = some w.heap.size) → S w' ∧ wpAnyH P md ops Q S fuel (listed.setIfInBounds i true) ⟨(L.set d v').toArray, ds⟩ w') : wpAnyH P md ops Q S (fuel + 1) listed ⟨L.toArray, ds⟩ w :=
  hx_step hi hr hw (wp_append_any w s x t ho base e ii z size bytes ht hii hz hsize hby hzs hsz v n xs hs hown B A m c news hx hrd h1 h63 hbytes hbase fun v' w' a b c => by
    rw [hd, put_list]
    exact h v' w' a b c)
/-- An append to a row of the call's own, as one of two operations that may come first. -/
theorem wp_appendK {K : Act → World → Prop} (s x : Operand) (t : TypeId) (base : Nat) (e : TypeId) (ii : TypeInfo) (z : Value) (size bytes : Nat) (v : Value) (n : Nat) (xs : List Value) (B : Nat) (A : Option Addr) (m c : Nat) (news : List Value)
    (hd : oi.dst = some d)
    (ho : oi.op = .call { callee := .builtin .append, args := #[s, x], argTypes := #[t, t] }) (ht : P.underlying t = some (.slice e)) (hii : P.info? e = some ii) (hz : ii.zero = some z)
    (hsize : ii.size = size) (hby : ii.bytes = bytes) (hzs : z.cells.size = size) (hsz : 0 < size)
    (hs : Act.eval ⟨L.toArray, ds⟩ s = v) (hown : w.ownsRow base e size v n xs)
    (hx : Act.eval ⟨L.toArray, ds⟩ x = .slice A m c) (hrd : Reads w B size A m news) (h1 : ∀ u ∈ news, u.oneCell' = true)
    (h63 : n + m ≤ maxLen) (hbytes : (n + m) * bytes ≤ 140737488355328) (hbase : base ≤ w.heap.size)
    (h : ∀ v' w', w'.ownsRow base e size v' (n + m) (xs ++ news) → w.grownBy w' v.ownBlock → (v'.ownBlock = v.ownBlock ∨ v'.ownBlock = some w.heap.size) → K ⟨(L.set d v').toArray, ds⟩ w') : Oper.wp P oi ⟨L.toArray, ds⟩ w K Q :=
  wp_append_any w s x t ho base e ii z size bytes ht hii hz hsize hby hzs hsz v n xs hs hown B A m c news hx hrd h1 h63 hbytes hbase fun v' w' a b c => by
    rw [hd, put_list]
    exact h v' w' a b c
end
theorem reads_new (W : World) (cs : Array Value) (e : TypeId) (K : Nat) (hK : cs.size = K) : Reads (W.alloc (.cells cs e)) (W.alloc (.cells cs e)).heap.size K (some ⟨W.heap.size, 0, none⟩) 1 cs.toList := by
  refine ⟨by simp [hK], fun _ => ⟨_, rfl, by simp, fun j u hu => ?_⟩⟩
  rw [add_form, Nat.zero_add, World.cell?_alloc_new]
  rw [← hu, Array.getElem?_toList]
theorem st_ints {o : Oper} {x y : Operand} {ev : Operand → Value} {g k : Nat} {a : Option Addr} {n c : Nat} {cs : Array Value} {T : TypeId} (ho : o.op = Op.store 54 x y) (hx : ev x = .pointer (some ⟨g, k, none⟩)) (hy : ev y = .slice a n c) (W : World) (h : Cel W g cs T) (hk : (cs[k]?).isSome = true) :
    (execOp ev o).run Tryz.prog W = .ok .skip (W.setCell ⟨g, k, none⟩ (.slice a n c)) := by
  obtain ⟨u, hu⟩ := Option.isSome_iff_exists.1 hk
  have h1 : W.cell? ⟨g, k, none⟩ = some u := (h.cell k).trans hu
  have h2 := h.free k
  simp only [execOp, ho]
  go_simp
theorem ints_info : (Tryz.prog.info? 54).map (fun i => (i.zero, i.size, i.bytes)) = some (some (.slice none 0 0), 1, 24) := by kernel_rfl
/-- A cell's value. -/
def CellIs (W : World) (g o : Nat) (v : Value) : Prop := W.cell? ⟨g, o, none⟩ = some v
theorem CellIs.cell {W : World} {g o : Nat} {v : Value} (h : CellIs W g o v) (_ : Nat) : W.cell? ⟨g, o, none⟩ = some v := h
theorem CellIs.next {W W' : World} {g o : Nat} {v : Value} (h : CellIs W g o v) (hs : Since W W') : CellIs W' g o v := hs.cell h
/-- Where the law stands ahead of the k-th number. -/
def WSt (w W : World) (B g D n k : Nat) (v : Value) : Prop := ∃ (S : List TCall) (Z : Nat → Prop) (L : Wnt), Since w W ∧ Tab W B g Z S ∧ WantAt W D v L ∧ WantOff Z v L ∧ L.map Prod.fst = S.map (fun c => c.2.2) ∧ S.length = n ∧ ∀ c ∈ S, canA c.1 = c.1 ∧ c.2.1 = [] ∧ c.2.2.length ≤ k
theorem want_same {S : List TCall} {L : Wnt} (h : L.map Prod.fst = S.map (fun c => c.2.2)) : L.length = S.length := by
  have := congrArg List.length h
  rwa [List.length_map, List.length_map] at this
theorem want_row {S : List TCall} {L : Wnt} (h : L.map Prod.fst = S.map (fun c => c.2.2)) {i : Nat} (hi : i < L.length) (hi2 : i < S.length) : (L[i]).1 = (S[i]).2.2 := by
  have h2 := congrArg (fun l => l[i]?) h
  simp only [List.getElem?_map, List.getElem?_eq_getElem hi, List.getElem?_eq_getElem hi2, Option.map_some] at h2
  injection h2
theorem wait_ok {S : List TCall} {i k : Nat} {x : Int} (hi : i < S.length) (h : ∀ c ∈ S, canA c.1 = c.1 ∧ c.2.1 = [] ∧ c.2.2.length ≤ k) : ∀ c ∈ S.set i (waitC S[i] x), canA c.1 = c.1 ∧ c.2.1 = [] ∧ c.2.2.length ≤ k + 1 := by
  intro c hc
  rcases List.mem_or_eq_of_mem_set hc with h1 | rfl
  · obtain ⟨a, b, d⟩ := h c h1
    exact ⟨a, b, by omega⟩
  · obtain ⟨a, b, d⟩ := h _ (List.getElem_mem hi)
    unfold waitC
    split
    · exact ⟨a, b, by omega⟩
    · exact ⟨a, b, by simp only [List.length_append, List.length_cons, List.length_nil]; omega⟩
theorem WSt.more {w W : World} {B g D n k k' : Nat} {v : Value} (h : WSt w W B g D n k v) (hk : k ≤ k') : WSt w W B g D n k' v := by
  obtain ⟨S, Z, L, h1, h2, h3, h4, h5, h6, h7⟩ := h
  exact ⟨S, Z, L, h1, h2, h3, h4, h5, h6, fun c hc => ⟨(h7 c hc).1, (h7 c hc).2.1, Nat.le_trans (h7 c hc).2.2 hk⟩⟩
theorem WSt.next {w W W' : World} {B g D n k : Nat} {v : Value} (h : WSt w W B g D n k v) (hs : Since W W') : WSt w W' B g D n k v := by
  obtain ⟨S, Z, L, h1, h2, h3, h4, h5, h6, h7⟩ := h
  exact ⟨S, Z, L, h1.trans hs, h2.next hs, h3.next hs, h4, h5, h6, h7⟩
/-- Want grown at one place, as the table was. -/
theorem want_tail {w W Wa W3 : World} {B g D n k : Nat} {Z : Nat → Prop} {S : List TCall} {v : Value} {L : Wnt} (x : Int) (i : Nat) (hi2 : i < S.length) (hT : Tab W B g Z (S.set i (waitC S[i] x))) (hS : Since w W) (hw : WantAt W D v L) (hz : WantOff Z v L) (hM : L.map Prod.fst = S.map (fun c => c.2.2)) (hn : S.length = n) (hok : ∀ c ∈ S, canA c.1 = c.1 ∧ c.2.1 = [] ∧ c.2.2.length ≤ k)
    (hs : Since W Wa) (hi : i < L.length) {v' : Value} {ob : Nat} (hv : v.ownBlock = some ob) (hg : Wa.grownBy W3 (L[i]).2.ownBlock) (hp : posF (L[i]).1 x 0 = none)
    (hown : W3.ownsRow D 3 1 v' ((L[i]).1.length + 1) ((L[i]).1.flatMap intV1 ++ [.int .i64 x])) (hat : v'.ownBlock = (L[i]).2.ownBlock ∨ v'.ownBlock = some Wa.heap.size) (hD : w.heap.size ≤ D) :
    WSt w (W3.setCell ⟨ob, 0 + i, none⟩ v') B g D n (k + 1) v := by
  rw [Nat.zero_add]
  have hA := WantAt.next hw hs
  have hIn := hA.inner hi
  have hput := hw.put hs hi hv hg hown hat
  have hob := (Nest.row hw).lt ob hv
  have g2 : W3.grownBy (W3.setCell ⟨ob, i, none⟩ v') (some ob) := grown_setCell W3 ob i v'
  have hS3 : Since w W3 := Below.grown (hS.trans hs) hg (hS.trans hs).size (fun b hb => Nat.le_trans hD (hIn.lt b hb).1)
  have hS4 : Since w (W3.setCell ⟨ob, i, none⟩ v') := Below.grown hS3 g2 hS3.size (fun b hb => by injection hb with hb; rw [← hb]; exact Nat.le_trans hD hob.1)
  have hT4 : Tab (W3.setCell ⟨ob, i, none⟩ v') B g Z (S.set i (waitC S[i] x)) := ((hT.next hs).far hg (fun b hb => hz.2 _ (List.getElem_mem hi) b hb)).far g2 (fun b hb => by injection hb with hb; rw [← hb]; exact hz.1 ob hv)
  have hrow := want_row hM hi hi2
  refine ⟨_, Z, _, hS4, hT4, hput, ⟨hz.1, fun p hp b hb => ?_⟩, ?_, by rw [List.length_set]; exact hn, wait_ok hi2 hok⟩
  · rcases List.mem_or_eq_of_mem_set hp with h1 | rfl
    · exact hz.2 p h1 b hb
    · rcases hat with e | e
      · exact hz.2 _ (List.getElem_mem hi) b (by rw [← e]; exact hb)
      · intro hZ
        have h1 := (hT.low b hZ).2
        have h2 := hs.size
        rw [show v'.ownBlock = some b from hb] at e
        injection e with e
        omega
  · rw [List.map_set, List.map_set, hM]
    congr 1
    show (L[i]).1 ++ [x] = (waitC S[i] x).2.2
    rw [hrow] at hp ⊢
    unfold waitC
    rw [hp]
    rfl
/-- One who waits already. -/
theorem want_there {w W : World} {B g D n k : Nat} {Z : Nat → Prop} {S : List TCall} {v : Value} {L : Wnt} (x : Int) (i : Nat) (hi2 : i < S.length) (hT : Tab W B g Z (S.set i (waitC S[i] x))) (hS : Since w W) (hw : WantAt W D v L) (hz : WantOff Z v L) (hM : L.map Prod.fst = S.map (fun c => c.2.2)) (hn : S.length = n) (hok : ∀ c ∈ S, canA c.1 = c.1 ∧ c.2.1 = [] ∧ c.2.2.length ≤ k)
    (hi : i < L.length) (hp : (posF (L[i]).1 x 0).isSome = true) : WSt w W B g D n (k + 1) v := by
  have e : waitC S[i] x = S[i] := by unfold waitC; rw [← want_row hM hi hi2, if_pos hp]
  rw [e, List.set_getElem_self] at hT
  exact ⟨S, Z, L, hS, hT, hw, hz, hM, hn, fun c hc => ⟨(hok c hc).1, (hok c hc).2.1, by have := (hok c hc).2.2; omega⟩⟩
theorem open_ok {S S' : List TCall} {a : Atm} {id k : Nat} {fr : Bool} (h : openS S a = (id, fr, S')) (hk : S.length ≤ k) (hok : ∀ c ∈ S, canA c.1 = c.1 ∧ c.2.1 = [] ∧ c.2.2 = []) : S'.length ≤ k + 1 ∧ ∀ c ∈ S', canA c.1 = c.1 ∧ c.2.1 = [] ∧ c.2.2 = [] := by
  obtain ⟨_, _, f3, f4, _⟩ := openS_facts h
  cases fr
  · obtain ⟨_, rfl⟩ := f4 rfl
    exact ⟨by omega, hok⟩
  · obtain ⟨_, rfl⟩ := f3 rfl
    refine ⟨by rw [List.length_append, List.length_singleton]; omega, fun c hc => ?_⟩
    rcases List.mem_append.1 hc with h1 | h1
    · exact hok c h1
    · have e : c = (canA a, [], []) := by simpa using h1
      subst e
      exact ⟨canA_canA a, rfl, rfl⟩
theorem pos_more {l : List Int} {x : Int} {q : Nat} (hq : q < l.length) : (posF (l.take (q + 1)) x 0).isSome = ((posF (l.take q) x 0).isSome || (l[q] == x)) := by
  rw [List.take_succ_eq_append_getElem hq, posF_snoc]
  cases posF (l.take q) x 0 with
  | some j => rfl
  | none =>
    by_cases h : l[q] = x
    · rw [if_pos h, h]; simp
    · rw [if_neg h]; simp [h]
end Go.Proofs.YtbgdljcgbhhfdaaGreatDoor
