/- Arguments: a slice of tokens, opened; each token's place is any int. -/
import Derived.Test.YtfbkddpapjpgbaaOpenG
import Derived.Test.YtfbkddpapjpgbaaAutoX
namespace Go.Proofs.Ytfbkddpapjpgbaa
open Go.RowKit Go.ChangeShapes Go.WideShapes Go.Deep

theorem add_formX (b o j : Nat) : (⟨b, o, none⟩ : Addr).add j = ⟨b, o + j, none⟩ := by unfold Addr.add; split <;> simp_all
/-- A slice value that reads as a list of things of K cells each. -/
def RowOf {α : Type} (K : Nat) (f : α → List Value) (W : World) (v : Value) (L : List α) : Prop :=
  ∃ a c, v = .slice a L.length c ∧ L.length ≤ c ∧ c ≤ maxLen ∧ (0 < L.length → ∃ b o, a = some ⟨b, o, none⟩ ∧ ∀ k, (h : k < L.length) → ∀ j u, (f L[k])[j]? = some u → W.cell? ⟨b, o + k * K + j, none⟩ = some u)
theorem RowOf.next {α : Type} {K : Nat} {f : α → List Value} {W W' : World} {v : Value} {L : List α} (h : RowOf K f W v L) (hs : Since W W') : RowOf K f W' v L := by
  obtain ⟨a, c, h1, h2, h3, h4⟩ := h
  refine ⟨a, c, h1, h2, h3, fun h0 => ?_⟩
  obtain ⟨b, o, h5, h6⟩ := h4 h0
  exact ⟨b, o, h5, fun k hk j u hu => hs.cell (h6 k hk j u hu)⟩
theorem RowOf.len {α : Type} {K : Nat} {f : α → List Value} {W : World} {v : Value} {L : List α} (h : RowOf K f W v L) : L.length ≤ maxLen := by
  obtain ⟨a, c, h1, h2, h3, h4⟩ := h
  omega
theorem RowOf.form {α : Type} {K : Nat} {f : α → List Value} {W : World} {v : Value} {L : List α} (h : RowOf K f W v L) : ∃ a c, v = .slice a L.length c := by
  obtain ⟨a, c, h1, h2, h3, h4⟩ := h
  exact ⟨a, c, h1⟩
theorem RowOf.nil {α : Type} {K : Nat} {f : α → List Value} {W : World} : RowOf K f W (.slice none 0 0) [] := ⟨none, 0, rfl, Nat.le_refl _, by unfold maxLen; omega, fun h => by simp at h⟩

section
variable {H : Type} {enc : TypeId × Value → H} {w : World} {base : Nat} {sp : Nat → Bool} {held : Bool} {fuel : Nat} {cs : List Value} {x : DataW H × List MemPlace}
theorem rd_str {P : Program} {t : TypeId} (ht : P.underlying t = some .string) (h : DataW.trod enc P w base sp held fuel t cs = some x) : ∃ l : List UInt8, cs = [.string ⟨l.toArray⟩] ∧ l.length ≤ maxLen := by
  obtain ⟨s, rfl, _, hs⟩ := DataW.trod_string ht h
  refine ⟨s.data.toList, rfl, ?_⟩
  have e : s.size = s.data.toList.length := rfl
  rw [← e]; exact hs
/-- A token whose place is any int. -/
abbrev TkI := Int × List UInt8 × Int
def tkI (t : TkI) : List Value := [.int .i64 t.1, .string ⟨t.2.1.toArray⟩, .int .i64 t.2.2]
theorem three_ofT {cs : List Value} {n : Nat} (h : cs.length = n) (hn : n = 3) : ∃ a b c, cs = [a, b, c] := by
  subst hn
  match cs, h with
  | [a, b, c], _ => exact ⟨a, b, c, rfl⟩
theorem cells_strT : Try.prog.cellsOf 9 = 1 := by kernel_rfl
theorem cells_intT : Try.prog.cellsOf 3 = 1 := by kernel_rfl
theorem cells_tokT : Try.prog.cellsOf 25 = 3 := by kernel_rfl
theorem rd_tok (h : DataW.trod enc Try.prog w base sp held fuel 25 cs = some x) : ∃ t : TkI, cs = tkI t ∧ t.2.1.length ≤ maxLen := by
  obtain ⟨ys, n, _, _, hlen, hyl, hf⟩ := DataW.trod_struct Try.underlying25 h
  obtain ⟨a, b, c, rfl⟩ := three_ofT hlen cells_tokT
  have l0 : 0 < ys.length := by rw [hyl]; decide
  have l1 : 1 < ys.length := by rw [hyl]; decide
  have l2 : 2 < ys.length := by rw [hyl]; decide
  have h0 : DataW.trod enc Try.prog w base sp held n 3 (([a, b, c].drop 0).take (Try.prog.cellsOf 3)) = some ys[0] := (hf 0 _ rfl).trans (List.getElem?_eq_getElem l0)
  have h1 : DataW.trod enc Try.prog w base sp held n 9 (([a, b, c].drop 1).take (Try.prog.cellsOf 9)) = some ys[1] := (hf 1 _ rfl).trans (List.getElem?_eq_getElem l1)
  have h2 : DataW.trod enc Try.prog w base sp held n 3 (([a, b, c].drop 2).take (Try.prog.cellsOf 3)) = some ys[2] := (hf 2 _ rfl).trans (List.getElem?_eq_getElem l2)
  rw [cells_intT] at h0 h2
  rw [cells_strT] at h1
  obtain ⟨k, e0, _, _⟩ := DataW.trod_int Try.underlying3 h0
  obtain ⟨l, e1, hl⟩ := rd_str Try.underlying9 h1
  obtain ⟨m, e2, _, _⟩ := DataW.trod_int Try.underlying3 h2
  have e0' : [a] = [Value.int .i64 k] := e0
  have e1' : [b] = [Value.string ⟨l.toArray⟩] := e1
  have e2' : [c] = [Value.int .i64 m] := e2
  injection e0' with e0' _
  injection e1' with e1' _
  injection e2' with e2' _
  exact ⟨(k, l, m), by rw [e0', e1', e2']; rfl, hl⟩
end
section
variable {H : Type} {enc : TypeId × Value → H} {w : World} {base : Nat} {sp : Nat → Bool} {held : Bool}
theorem pick_lt {α : Type} {n : Nat} {p : Nat → α → Prop} (h : ∀ i, i < n → ∃ a, p i a) : ∃ L : List α, L.length = n ∧ ∀ i, (hi : i < L.length) → p i L[i] := by
  induction n with
  | zero => exact ⟨[], rfl, fun i hi => by simp at hi⟩
  | succ n ih =>
    obtain ⟨L, hl, hL⟩ := ih fun i hi => h i (by omega)
    obtain ⟨a, ha⟩ := h n (by omega)
    refine ⟨L ++ [a], by simp [hl], fun i hi => ?_⟩
    by_cases hin : i < L.length
    · rw [List.getElem_append_left hin]; exact hL i hin
    · have : i = n := by simp at hi; omega
      subst this
      rw [List.getElem_append_right (by omega)]
      simpa [hl] using ha
/-- A slice of things of K cells, opened. -/
theorem open_rowOf' {P : Program} (hz : slicesOK P = true) {α : Type} {r : Reach} {b0 : Nat} {t e : TypeId} {K : Nat} {f : α → List Value} {Q : α → Prop} (hlt : t < P.types.size) (ht : P.underlying t = some (.slice e)) (hK : P.cellsOf e = K)
    (hrd : ∀ {n : Nat} {cs : List Value} {x : DataW H × List MemPlace}, DataW.trod enc P w base sp held n e cs = some x → ∃ a, cs = f a ∧ Q a)
    {v : Value} {d : DataW H} {ps : List MemPlace} (hval : Value.okWide P w r b0 t v) (h : DataW.Trod enc P w base sp held t v d ps) :
    ∃ L : List α, RowOf K f w v L ∧ ∀ a ∈ L, Q a := by
  obtain ⟨fuel, hf⟩ := h
  rcases open_slice ht hf with ⟨h0, _⟩ | ⟨a, len, cap, m, n, D, Pl, hcs, hb, hl, hm, hmm, hx, hi⟩
  · obtain ⟨a1, l1, c1, rfl⟩ := okWide_slice ht hval
    have e : Value.slice a1 l1 c1 = .slice none 0 0 := by simpa [Value.cells] using h0
    injection e with e1 e2 e3
    subst e1 e2 e3
    exact ⟨[], RowOf.nil, by simp⟩
  · obtain ⟨a1, l1, c1, rfl⟩ := okWide_slice ht hval
    have e : Value.slice (some a) len cap = Value.slice a1 l1 c1 := (by simpa [Value.cells] using hcs : Value.slice a1 l1 c1 = Value.slice (some a) len cap).symm
    injection e with e1 e2 e3
    subst e1 e2 e3
    have hlen : len ≤ m := by rw [hmm]; split <;> omega
    obtain ⟨L, hL, hp⟩ := pick_lt (n := len) (p := fun i (y : α) => (∃ cs, w.cells? base (a.add (i * P.cellsOf e)) (P.cellsOf e) = some cs ∧ cs = f y) ∧ Q y) (fun i hil => by
      obtain ⟨cs', hc, htr⟩ := hi i (by omega)
      obtain ⟨y, hy, hq⟩ := hrd htr
      exact ⟨y, ⟨cs', hc, hy⟩, hq⟩)
    refine ⟨L, ⟨some a, cap, by rw [hL], by omega, hm, fun h0 => ?_⟩, fun y hy => ?_⟩
    · have hpos : 0 < P.cellsOf e := slicesOK_of hz hlt ht
      obtain ⟨⟨cs', hc, rfl⟩, _⟩ := hp 0 h0
      obtain ⟨_, hcl, hat⟩ := World.cells?_some hc
      have h00 := hat 0 hpos
      rw [List.getElem?_eq_getElem (by omega)] at h00
      obtain ⟨b, o, pa⟩ := a
      obtain rfl : pa = none := by simpa [Addr.add] using World.cell?_spot h00
      refine ⟨b, o, rfl, fun k hk j u hu => ?_⟩
      obtain ⟨⟨cs', hc, rfl⟩, _⟩ := hp k hk
      rw [hK] at hc
      obtain ⟨_, hcl, hat⟩ := World.cells?_some hc
      have hj : j < (f L[k]).length := (List.getElem?_eq_some_iff.1 hu).1
      have := hat j (by omega)
      rw [add_formX, add_formX, hu] at this
      exact this
    · obtain ⟨i, hi', rfl⟩ := List.getElem_of_mem hy
      exact (hp i hi').2
end
/-- A token of such a row, as a walk writes its places. -/
theorem tki_at {w : World} {v : Value} {L : List TkI} (h : RowOf 3 tkI w v L) {k : Nat} (hk : k < L.length) :
    ∃ b o c, v = .slice (some ⟨b, o, none⟩) L.length c ∧ L.length ≤ c ∧ w.cell? ⟨b, o + k * 3, none⟩ = some (.int .i64 L[k].1) ∧ w.cell? ⟨b, o + k * 3 + 1, none⟩ = some (.string ⟨L[k].2.1.toArray⟩) ∧ w.cell? ⟨b, o + k * 3 + 2, none⟩ = some (.int .i64 L[k].2.2) := by
  obtain ⟨a, c, rfl, h2, _, h4⟩ := h
  obtain ⟨b, o, rfl, h6⟩ := h4 (by omega)
  exact ⟨b, o, c, rfl, h2, h6 k hk 0 _ rfl, h6 k hk 1 _ rfl, h6 k hk 2 _ rfl⟩
end Go.Proofs.Ytfbkddpapjpgbaa
