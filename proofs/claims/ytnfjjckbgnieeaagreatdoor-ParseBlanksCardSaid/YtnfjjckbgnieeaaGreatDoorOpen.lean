/- Arguments opened to plain data by their readings; and read again behind a call that only made new memory. -/
import Derived.Test.YtnfjjckbgnieeaaGreatDoorRow
import Derived.OpenShut
import Derived.ChangeStays
import Derived.ChangeOld
import Derived.Deep.Slices
namespace Go.Proofs.YtnfjjckbgnieeaaGreatDoor
open Go.RowKit Go.ChangeShapes Go.WideShapes Go.Deep

theorem sameAt_of_since {w w' : World} (h : Since w w') : ∀ {p : MemPlace}, p.block < w.heap.size → w.sameAt w' p
  | .cell b o, hp => Below.cell h (p := ⟨b, o, none⟩) hp
  | .map b, hp => Below.block h b hp

def slicesOK (P : Program) : Bool := (List.range P.types.size).all fun t => match P.underlying t with | some (.slice e) => decide (0 < P.cellsOf e) | _ => true
theorem slicesOK_of {P : Program} (h : slicesOK P = true) {t e : TypeId} (ht : t < P.types.size) (hu : P.underlying t = some (.slice e)) : 0 < P.cellsOf e := by
  have := List.all_eq_true.1 h t (List.mem_range.2 ht)
  rw [hu] at this
  exact of_decide_eq_true this
theorem kidsP : Kids Tryz.prog (· < Tryz.prog.types.size) := kids_rows (by kernel_rfl) (by kernel_rfl)
theorem slicesP : slicesOK Tryz.prog = true := by kernel_rfl

section
variable {H : Type} {enc : TypeId × Value → H} {P : Program} {w w' : World}
/-- What an argument read before the call it reads behind it, if the call only made new memory. -/
theorem trod_since' (K : Kids P (· < P.types.size)) (hz : slicesOK P = true) (hS : Since w w') {t : TypeId} (ht : t < P.types.size) {v : Value} {d : DataW H} {ps : List MemPlace} (h : DataW.Trod enc P w 0 (fun _ => true) true t v d ps) :
    DataW.Trod enc P w' 0 (fun b => decide (b < w.heap.size)) true t v d ps := by
  obtain ⟨n, hn⟩ := h
  have hlt := DataW.trod_lt n _ _ _ hn
  exact ⟨n, DataW.trod_stays K (fun ht hu => slicesOK_of hz ht hu) (fun h => by cases h) ht hn (fun p hp => sameAt_of_since hS (hlt p hp)) (fun p hp => decide_eq_true (hlt p hp))⟩
theorem trodAll_since' (K : Kids P (· < P.types.size)) (hz : slicesOK P = true) (hS : Since w w') : ∀ {ts : List TypeId} {vs : List Value} {ds : List (DataW H)} {ps : List MemPlace}, (ts.all fun t => decide (t < P.types.size)) = true →
    DataW.TrodAll enc P w 0 (fun _ => true) true ts vs ds ps → DataW.TrodAll enc P w' 0 (fun b => decide (b < w.heap.size)) true ts vs ds ps := by
  intro ts
  induction ts with
  | nil =>
    intro vs ds ps _ h
    obtain ⟨rfl, rfl, rfl⟩ := trodAll_nil h
    exact trodAll_mk0
  | cons t ts ih =>
    intro vs ds ps ht h
    obtain ⟨v, vs1, d, ds1, a, b, rfl, rfl, rfl, h1, h2⟩ := trodAll_cons h
    rw [List.all_cons, Bool.and_eq_true] at ht
    exact trodAll_cons_mk (trod_since' K hz hS (of_decide_eq_true ht.1) h1) (ih ht.2 h2)
end
theorem trodAll_since {H : Type} {enc : TypeId × Value → H} {w w' : World} (hS : Since w w') {ts : List TypeId} {vs : List Value} {ds : List (DataW H)} {ps : List MemPlace} (ht : (ts.all fun t => decide (t < Tryz.prog.types.size)) = true)
    (h : DataW.TrodAll enc Tryz.prog w 0 (fun _ => true) true ts vs ds ps) : DataW.TrodAll enc Tryz.prog w' 0 (fun b => decide (b < w.heap.size)) true ts vs ds ps := trodAll_since' kidsP slicesP hS ht h

section
variable {H : Type} {enc : TypeId × Value → H} {w : World} {base : Nat} {sp : Nat → Bool} {held : Bool} {fuel : Nat} {cs : List Value} {x : DataW H × List MemPlace}
theorem rd_str {P : Program} {t : TypeId} (ht : P.underlying t = some .string) (h : DataW.trod enc P w base sp held fuel t cs = some x) : ∃ l : List UInt8, cs = [.string ⟨l.toArray⟩] ∧ l.length ≤ maxLen := by
  obtain ⟨s, rfl, _, hs⟩ := DataW.trod_string ht h
  refine ⟨s.data.toList, rfl, ?_⟩
  have e : s.size = s.data.toList.length := rfl
  rw [← e]; exact hs
theorem two_of {cs : List Value} {n : Nat} (h : cs.length = n) (hn : n = 2) : ∃ a b, cs = [a, b] := by
  subst hn
  match cs, h with
  | [a, b], _ => exact ⟨a, b, rfl⟩

theorem cells_bool : Tryz.prog.cellsOf 4 = 1 := by kernel_rfl
theorem cells_string : Tryz.prog.cellsOf 9 = 1 := by kernel_rfl
theorem cells_int : Tryz.prog.cellsOf 3 = 1 := by kernel_rfl
theorem cells_term : Tryz.prog.cellsOf 41 = 2 := by kernel_rfl
theorem cells_terms : Tryz.prog.cellsOf 42 = 8 := by kernel_rfl
theorem cells_atom : Tryz.prog.cellsOf 44 = 11 := by kernel_rfl

theorem rd_term (h : DataW.trod enc Tryz.prog w base sp held fuel 41 cs = some x) : ∃ t : Tm, cs = [.bool t.1, .string ⟨t.2.toArray⟩] ∧ t.2.length ≤ maxLen := by
  obtain ⟨ys, n, _, _, hlen, hyl, hf⟩ := DataW.trod_struct Tryz.underlying41 h
  obtain ⟨a, b, rfl⟩ := two_of hlen cells_term
  have l0 : 0 < ys.length := by rw [hyl]; decide
  have l1 : 1 < ys.length := by rw [hyl]; decide
  have h0 : DataW.trod enc Tryz.prog w base sp held n 4 (([a, b].drop 0).take (Tryz.prog.cellsOf 4)) = some ys[0] := (hf 0 _ rfl).trans (List.getElem?_eq_getElem l0)
  have h1 : DataW.trod enc Tryz.prog w base sp held n 9 (([a, b].drop 1).take (Tryz.prog.cellsOf 9)) = some ys[1] := (hf 1 _ rfl).trans (List.getElem?_eq_getElem l1)
  rw [cells_bool] at h0
  rw [cells_string] at h1
  obtain ⟨v, e0, _⟩ := DataW.trod_bool Tryz.underlying4 h0
  obtain ⟨l, e1, hl⟩ := rd_str Tryz.underlying9 h1
  have e0' : [a] = [Value.bool v] := e0
  have e1' : [b] = [Value.string ⟨l.toArray⟩] := e1
  injection e0' with e0' _
  injection e1' with e1' _
  exact ⟨(v, l), by rw [e0', e1'], hl⟩

theorem rd_tmC (h : DataW.trod enc Tryz.prog w base sp held fuel 41 cs = some x) : ∃ t : Tm, cs = tmC t ∧ t.2.length ≤ maxLen := rd_term h
theorem k04 : 0 < 4 := by decide
theorem k14 : 1 < 4 := by decide
theorem k24 : 2 < 4 := by decide
theorem k34 : 3 < 4 := by decide
theorem eleven_of {cs : List Value} {n : Nat} (h : cs.length = n) (hn : n = 11) : ∃ c0 c1 c2 c3 c4 c5 c6 c7 c8 c9 c10, cs = [c0, c1, c2, c3, c4, c5, c6, c7, c8, c9, c10] := by
  subst hn
  match cs, h with
  | [c0, c1, c2, c3, c4, c5, c6, c7, c8, c9, c10], _ => exact ⟨_, _, _, _, _, _, _, _, _, _, _, rfl⟩

/-- No name is longer than a text may be; N is an int. -/
def FitsN (a : Atm) : Prop := (a.1.length ≤ maxLen ∧ a.2.1.length ≤ maxLen ∧ ∀ t ∈ argsL a, t.2.length ≤ maxLen) ∧ -9223372036854775808 ≤ a.2.2.1 ∧ a.2.2.1 ≤ 9223372036854775807
theorem rd_atom (h : DataW.trod enc Tryz.prog w base sp held fuel 44 cs = some x) : ∃ a : Atm, cs = (atmC a).toList ∧ FitsN a := by
  obtain ⟨ys, n, _, _, hlen, hyl, hf⟩ := DataW.trod_struct Tryz.underlying44 h
  obtain ⟨c0, c1, c2, c3, c4, c5, c6, c7, c8, c9, c10, rfl⟩ := eleven_of hlen cells_atom
  have l0 : 0 < ys.length := by rw [hyl]; decide
  have h0 : DataW.trod enc Tryz.prog w base sp held n 9 (([c0, c1, c2, c3, c4, c5, c6, c7, c8, c9, c10].drop 0).take (Tryz.prog.cellsOf 9)) = some ys[0] := (hf 0 _ rfl).trans (List.getElem?_eq_getElem l0)
  rw [cells_string] at h0
  have l1 : 1 < ys.length := by rw [hyl]; decide
  have h1 : DataW.trod enc Tryz.prog w base sp held n 9 (([c0, c1, c2, c3, c4, c5, c6, c7, c8, c9, c10].drop 1).take (Tryz.prog.cellsOf 9)) = some ys[1] := (hf 1 _ rfl).trans (List.getElem?_eq_getElem l1)
  rw [cells_string] at h1
  have l2 : 2 < ys.length := by rw [hyl]; decide
  have h2 : DataW.trod enc Tryz.prog w base sp held n 3 (([c0, c1, c2, c3, c4, c5, c6, c7, c8, c9, c10].drop 2).take (Tryz.prog.cellsOf 3)) = some ys[2] := (hf 2 _ rfl).trans (List.getElem?_eq_getElem l2)
  rw [cells_int] at h2
  have l3 : 3 < ys.length := by rw [hyl]; decide
  have h3 : DataW.trod enc Tryz.prog w base sp held n 42 (([c0, c1, c2, c3, c4, c5, c6, c7, c8, c9, c10].drop 3).take (Tryz.prog.cellsOf 42)) = some ys[3] := (hf 3 _ rfl).trans (List.getElem?_eq_getElem l3)
  rw [cells_terms] at h3
  obtain ⟨s, e0, hs⟩ := rd_str Tryz.underlying9 h0
  obtain ⟨p, e1, hp⟩ := rd_str Tryz.underlying9 h1
  obtain ⟨m, e2, _, hm⟩ := DataW.trod_int Tryz.underlying3 h2
  obtain ⟨zs, q, _, _, _, hzl, hz⟩ := DataW.trod_array Tryz.underlying42 h3
  simp only [cells_term] at hz
  have z0 := hz 0 k04
  have z1 := hz 1 k14
  have z2 := hz 2 k24
  have z3 := hz 3 k34
  have y0 : 0 < zs.length := Nat.lt_of_lt_of_eq k04 hzl.symm
  rw [List.getElem?_eq_getElem y0] at z0
  have y1 : 1 < zs.length := Nat.lt_of_lt_of_eq k14 hzl.symm
  rw [List.getElem?_eq_getElem y1] at z1
  have y2 : 2 < zs.length := Nat.lt_of_lt_of_eq k24 hzl.symm
  rw [List.getElem?_eq_getElem y2] at z2
  have y3 : 3 < zs.length := Nat.lt_of_lt_of_eq k34 hzl.symm
  rw [List.getElem?_eq_getElem y3] at z3
  obtain ⟨t0, f0, k0⟩ := rd_term z0
  obtain ⟨t1, f1, k1⟩ := rd_term z1
  obtain ⟨t2, f2, k2⟩ := rd_term z2
  obtain ⟨t3, f3, k3⟩ := rd_term z3
  have e0' : [c0] = [Value.string ⟨s.toArray⟩] := e0
  have e1' : [c1] = [Value.string ⟨p.toArray⟩] := e1
  have e2' : [c2] = [Value.int .i64 m] := e2
  have f0' : [c3, c4] = [Value.bool t0.1, .string ⟨t0.2.toArray⟩] := f0
  have f1' : [c5, c6] = [Value.bool t1.1, .string ⟨t1.2.toArray⟩] := f1
  have f2' : [c7, c8] = [Value.bool t2.1, .string ⟨t2.2.toArray⟩] := f2
  have f3' : [c9, c10] = [Value.bool t3.1, .string ⟨t3.2.toArray⟩] := f3
  simp only [List.cons.injEq, and_true] at e0' e1' e2' f0' f1' f2' f3'
  refine ⟨(s, p, m, t0, t1, t2, t3), ?_, ⟨hs, hp, ?_⟩, ?_⟩
  · rw [e0', e1', e2', f0'.1, f0'.2, f1'.1, f1'.2, f2'.1, f2'.2, f3'.1, f3'.2]; rfl
  · intro t ht
    have ht' : t ∈ [t0, t1, t2, t3] := ht
    simp only [List.mem_cons, List.not_mem_nil, or_false] at ht'
    rcases ht' with rfl | rfl | rfl | rfl <;> assumption
  · exact bounds_i64 hm
end

section
variable {H : Type} {enc : TypeId × Value → H} {w : World} {base : Nat} {sp : Nat → Bool} {held : Bool}
theorem pick_lt {α : Type} {n : Nat} {p : Nat → α → Prop} (h : ∀ i, i < n → ∃ a, p i a) : ∃ L : List α, L.length = n ∧ ∀ i, (hi : i < L.length) → p i L[i] := by
  induction n with
  | zero => exact ⟨[], rfl, fun i hi => by simp at hi⟩
  | succ n ih =>
    obtain ⟨L, hl, hL⟩ := ih fun i hi => h i (by omega)
    obtain ⟨a, ha⟩ := h n (by omega)
    refine ⟨L ++ [a], by simp [hl], fun i hi => ?_⟩
    by_cases hin : i < L.length
    · rw [List.getElem_append_left hin]; exact hL i hin
    · have : i = n := by simp at hi; omega
      subst this
      rw [List.getElem_append_right (by omega)]
      simpa [hl] using ha
/-- A slice of things of K cells, opened. -/
theorem open_rowOf' {P : Program} (hz : slicesOK P = true) {α : Type} {r : Reach} {b0 : Nat} {t e : TypeId} {K : Nat} {f : α → List Value} {Q : α → Prop} (hlt : t < P.types.size) (ht : P.underlying t = some (.slice e)) (hK : P.cellsOf e = K)
    (hrd : ∀ {n : Nat} {cs : List Value} {x : DataW H × List MemPlace}, DataW.trod enc P w base sp held n e cs = some x → ∃ a, cs = f a ∧ Q a)
    {v : Value} {d : DataW H} {ps : List MemPlace} (hval : Value.okWide P w r b0 t v) (h : DataW.Trod enc P w base sp held t v d ps) :
    ∃ L : List α, RowOf K f w v L ∧ ∀ a ∈ L, Q a := by
  obtain ⟨fuel, hf⟩ := h
  rcases open_slice ht hf with ⟨h0, _⟩ | ⟨a, len, cap, m, n, D, Pl, hcs, hb, hl, hm, hmm, hx, hi⟩
  · obtain ⟨a1, l1, c1, rfl⟩ := okWide_slice ht hval
    have e : Value.slice a1 l1 c1 = .slice none 0 0 := by simpa [Value.cells] using h0
    injection e with e1 e2 e3
    subst e1 e2 e3
    exact ⟨[], RowOf.nil, by simp⟩
  · obtain ⟨a1, l1, c1, rfl⟩ := okWide_slice ht hval
    have e : Value.slice (some a) len cap = Value.slice a1 l1 c1 := (by simpa [Value.cells] using hcs : Value.slice a1 l1 c1 = Value.slice (some a) len cap).symm
    injection e with e1 e2 e3
    subst e1 e2 e3
    have hlen : len ≤ m := by rw [hmm]; split <;> omega
    obtain ⟨L, hL, hp⟩ := pick_lt (n := len) (p := fun i (y : α) => (∃ cs, w.cells? base (a.add (i * P.cellsOf e)) (P.cellsOf e) = some cs ∧ cs = f y) ∧ Q y) (fun i hil => by
      obtain ⟨cs', hc, htr⟩ := hi i (by omega)
      obtain ⟨y, hy, hq⟩ := hrd htr
      exact ⟨y, ⟨cs', hc, hy⟩, hq⟩)
    refine ⟨L, ⟨some a, cap, by rw [hL], by omega, hm, fun h0 => ?_⟩, fun y hy => ?_⟩
    · have hpos : 0 < P.cellsOf e := slicesOK_of hz hlt ht
      obtain ⟨⟨cs', hc, rfl⟩, _⟩ := hp 0 h0
      obtain ⟨_, hcl, hat⟩ := World.cells?_some hc
      have h00 := hat 0 hpos
      rw [List.getElem?_eq_getElem (by omega)] at h00
      obtain ⟨b, o, pa⟩ := a
      obtain rfl : pa = none := by simpa [Addr.add] using World.cell?_spot h00
      refine ⟨b, o, rfl, fun k hk j u hu => ?_⟩
      obtain ⟨⟨cs', hc, rfl⟩, _⟩ := hp k hk
      rw [hK] at hc
      obtain ⟨_, hcl, hat⟩ := World.cells?_some hc
      have hj : j < (f L[k]).length := (List.getElem?_eq_some_iff.1 hu).1
      have := hat j (by omega)
      rw [add_form, add_form, hu] at this
      exact this
    · obtain ⟨i, hi', rfl⟩ := List.getElem_of_mem hy
      exact (hp i hi').2
end
section
variable {H : Type} {enc : TypeId × Value → H} {w : World} {base : Nat} {sp : Nat → Bool} {held : Bool} {r : Reach} {b0 : Nat} {v : Value} {d : DataW H} {ps : List MemPlace}
theorem open_struct' {P : Program} {t : TypeId} {fs : Array Field} (ht : P.underlying t = some (.struct fs)) (hval : Value.okWide P w r b0 t v) (h : DataW.Trod enc P w base sp held t v d ps) : ∃ cs fuel, v = .agg cs ∧ DataW.trod enc P w base sp held fuel t cs.toList = some (d, ps) := by
  obtain ⟨cs, rfl, _⟩ := okWide_struct ht hval
  obtain ⟨fuel, hf⟩ := h
  exact ⟨cs, fuel, rfl, hf⟩
set_option maxRecDepth 100000 in
theorem open_atom (hval : Value.okWide Tryz.prog w r b0 44 v) (h : DataW.Trod enc Tryz.prog w base sp held 44 v d ps) : ∃ a : Atm, v = .agg (atmC a) ∧ FitsN a := by
  obtain ⟨cs, fuel, rfl, hf⟩ := open_struct' Tryz.underlying44 hval h
  obtain ⟨a, ha, hq⟩ := rd_atom hf
  have e : cs.toList = (atmC a).toList := ha
  exact ⟨a, by rw [Array.toList_inj.1 e], hq⟩
set_option maxRecDepth 100000 in
theorem open_term (hval : Value.okWide Tryz.prog w r b0 41 v) (h : DataW.Trod enc Tryz.prog w base sp held 41 v d ps) : ∃ t : Tm, v = .agg #[.bool t.1, .string ⟨t.2.toArray⟩] ∧ t.2.length ≤ maxLen := by
  obtain ⟨cs, fuel, rfl, hf⟩ := open_struct' Tryz.underlying41 hval h
  obtain ⟨t, ht, hq⟩ := rd_term hf
  have e : cs.toList = [.bool t.1, .string ⟨t.2.toArray⟩] := ht
  refine ⟨t, ?_, hq⟩
  obtain ⟨l⟩ := cs
  have e' : l = [.bool t.1, .string ⟨t.2.toArray⟩] := e
  rw [e']
end
end Go.Proofs.YtnfjjckbgnieeaaGreatDoor
