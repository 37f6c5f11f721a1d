/- A policy opened to plain data by its readings. -/
import Derived.Test.YtpkggopaigledaaDoorOpen
import Derived.Test.YtpkggopaigledaaDoorFoB
import Derived.SizedLaws
namespace Go.Proofs.YtpkggopaigledaaDoor
open Go.RowKit Go.ChangeShapes Go.WideShapes Go.Deep

def SmallW {H : Type} (P : Program) (t : TypeId) (d : DataW H) : Prop := ∀ n ∈ d.weights P t, n ≤ reachBytes
theorem weightsAll_mem' {H : Type} {P : Program} {e : TypeId} : ∀ {l : List (DataW H)} {d : DataW H}, d ∈ l → ∀ n ∈ d.weights P e, n ∈ DataW.weightsAll P e l
  | [], _, hd, _, _ => by cases hd
  | d0 :: l, d, hd, n, hn => by
    simp only [DataW.weightsAll, List.mem_append]
    rcases List.mem_cons.1 hd with rfl | hd
    · exact .inl hn
    · exact .inr (weightsAll_mem' hd n hn)
theorem smallW_field {H : Type} {P : Program} {t : TypeId} {fs : Array Field} {ys : List (DataW H)} (ht : P.underlying t = some (.struct fs)) (h : SmallW P t (.agg ys)) {j : Nat} {u : TypeId} {d : DataW H} (hu : (fs.toList.map (·.type))[j]? = some u) (hd : ys[j]? = some d) : SmallW P u d := by
  intro n hn
  refine h n ?_
  rw [DataW.weights, ht]
  exact DataW.weights_mem_each hu hd n hn
section
variable {H : Type} {enc : TypeId × Value → H} {w : World} {base : Nat} {sp : Nat → Bool} {held : Bool} {fuel : Nat} {cs : List Value} {x : DataW H × List MemPlace}
/-- A slice in a cell, opened to a row of things of K cells. -/
theorem rd_krow {P : Program} {α : Type} {R : World → Nat → Nat → α → Prop} {K : Nat} {Q : α → Prop} {t e : TypeId} (ht : P.underlying t = some (.slice e)) (hK : P.cellsOf e = K) (hpos : 0 < K)
    (hrd : ∀ {n : Nat} {cs : List Value} {x : DataW H × List MemPlace}, DataW.trod enc P w base sp held n e cs = some x → SmallW P e x.1 → cs.length = K ∧ ∃ a, Q a ∧ ∀ b o, (∀ j u, cs[j]? = some u → w.cell? ⟨b, o + j, none⟩ = some u) → R w b o a)
    (h : DataW.trod enc P w base sp held fuel t cs = some x) (hs : SmallW P t x.1) : ∃ a n c, ∃ L : List α, cs = [.slice a n c] ∧ KRow K R w (.slice a n c) L ∧ (∀ y ∈ L, Q y) ∧ L.length ≤ maxLen := by
  rcases open_slice ht h with ⟨h0, _⟩ | ⟨a, len, cap, m, n, D, Pl, hcs, hb, hl, hm, hmm, hx, hi⟩
  · exact ⟨none, 0, 0, [], h0, KRow.nil _ _, (by intro y hy; cases hy), Nat.zero_le _⟩
  · have hlen : len ≤ m := by rw [hmm]; split <;> omega
    have hx1 : x.1 = .slice ((List.range len).map D) ((List.range (m - len)).map fun j => D (len + j)) := by rw [hx]
    obtain ⟨L, hL, hp⟩ := pick_lt (n := len) (p := fun i (y : α) => Q y ∧ ∃ cs', w.cells? base (a.add (i * K)) K = some cs' ∧ cs'.length = K ∧ ∀ b o, (∀ j u, cs'[j]? = some u → w.cell? ⟨b, o + j, none⟩ = some u) → R w b o y) (fun i hil => by
      obtain ⟨cs', hc, htr⟩ := hi i (by omega)
      rw [hK] at hc
      obtain ⟨hlc, y, hq, hy⟩ := hrd htr (fun n hn => hs n (by
        rw [hx1, DataW.weights, ht]
        refine List.mem_cons_of_mem _ (List.mem_append_left _ (weightsAll_mem' (List.mem_map.2 ⟨i, List.mem_range.2 hil, rfl⟩) n hn))))
      exact ⟨y, hq, cs', hc, hlc, hy⟩)
    refine ⟨some a, len, cap, L, hcs, ⟨some a, cap, by rw [hL], by omega, fun h0 => ?_⟩, fun y hy => ?_, by omega⟩
    · obtain ⟨_, cs', hc, hlc, _⟩ := hp 0 h0
      obtain ⟨_, hcl, hat⟩ := World.cells?_some hc
      have h00 := hat 0 hpos
      rw [List.getElem?_eq_getElem (by omega)] at h00
      obtain ⟨b, o, pa⟩ := a
      obtain rfl : pa = none := by simpa [Addr.add] using World.cell?_spot h00
      refine ⟨b, o, rfl, fun k hk => ?_⟩
      obtain ⟨_, cs', hc, hlc, hR⟩ := hp k hk
      refine hR b (o + k * K) fun j u hu => ?_
      obtain ⟨_, hcl, hat⟩ := World.cells?_some hc
      have hj : j < cs'.length := (List.getElem?_eq_some_iff.1 hu).1
      have := hat j (by omega)
      rw [add_form, add_form, hu] at this
      exact this
    · obtain ⟨i, hi', rfl⟩ := List.getElem_of_mem hy
      exact (hp i hi').1
/-- A text's bound. -/
def FitsT (l : Txt) : Prop := l.length ≤ 140737488355328
theorem FitsT.max {l : Txt} (h : FitsT l) : l.length ≤ maxLen := by
  unfold FitsT at h; unfold maxLen; omega
theorem rd_txt {P : Program} {t : TypeId} (ht : P.underlying t = some .string) (h : DataW.trod enc P w base sp held fuel t cs = some x) (hs : SmallW P t x.1) : ∃ l : Txt, cs = [.string ⟨l.toArray⟩] ∧ FitsT l := by
  obtain ⟨s, rfl, hx, hl⟩ := DataW.trod_string ht h
  refine ⟨s.data.toList, rfl, ?_⟩
  have := hs s.data.toList.length (by rw [hx]; simp [DataW.weights])
  unfold FitsT
  unfold reachBytes at this
  omega
theorem rd_txtR (h : DataW.trod enc Tryd.prog w base sp held fuel 9 cs = some x) (hs : SmallW Tryd.prog 9 x.1) : cs.length = 1 ∧ ∃ l : Txt, FitsT l ∧ ∀ b o, (∀ j u, cs[j]? = some u → w.cell? ⟨b, o + j, none⟩ = some u) → TxtAt w b o l := by
  obtain ⟨l, rfl, hl⟩ := rd_txt Tryd.underlying9 h hs
  exact ⟨rfl, l, hl, fun b o hc => hc 0 _ rfl⟩
theorem cells_strings : Tryd.prog.cellsOf 22 = 1 := by kernel_rfl
theorem cells_atoms : Tryd.prog.cellsOf 40 = 1 := by kernel_rfl
theorem cells_pred : Tryd.prog.cellsOf 47 = 2 := by kernel_rfl
theorem cells_clear : Tryd.prog.cellsOf 49 = 2 := by kernel_rfl
theorem cells_rule : Tryd.prog.cellsOf 42 = 12 := by kernel_rfl
theorem cells_grant : Tryd.prog.cellsOf 54 = 13 := by kernel_rfl
theorem cells_policy : Tryd.prog.cellsOf 28 = 7 := by kernel_rfl
theorem cells_preds : Tryd.prog.cellsOf 23 = 1 := by kernel_rfl
theorem cells_clears : Tryd.prog.cellsOf 24 = 1 := by kernel_rfl
theorem cells_rules : Tryd.prog.cellsOf 25 = 1 := by kernel_rfl
theorem cells_grants : Tryd.prog.cellsOf 26 = 1 := by kernel_rfl
theorem rd_texts (h : DataW.trod enc Tryd.prog w base sp held fuel 22 cs = some x) (hs : SmallW Tryd.prog 22 x.1) : ∃ a n c, ∃ L : List Txt, cs = [.slice a n c] ∧ TRow w (.slice a n c) L ∧ (∀ y ∈ L, FitsT y) ∧ L.length ≤ maxLen :=
  rd_krow (R := TxtAt) (Q := FitsT) Tryd.underlying22 cells_string (by decide) (fun h s => rd_txtR h s) h hs
theorem two_of' {cs : List Value} {n : Nat} (h : cs.length = n) (hn : n = 2) : ∃ a b, cs = [a, b] := two_of h hn
theorem rd_prdR (h : DataW.trod enc Tryd.prog w base sp held fuel 47 cs = some x) (hs : SmallW Tryd.prog 47 x.1) : cs.length = 2 ∧ ∃ y : Txt × Int, (FitsT y.1 ∧ -9223372036854775808 ≤ y.2 ∧ y.2 ≤ 9223372036854775807) ∧ ∀ b o, (∀ j u, cs[j]? = some u → w.cell? ⟨b, o + j, none⟩ = some u) → PrdAt w b o y := by
  obtain ⟨ys, n, _, hx, hlen, hyl, hf⟩ := DataW.trod_struct Tryd.underlying47 h
  rw [hx] at hs
  obtain ⟨c0, c1, rfl⟩ := two_of hlen cells_pred
  have l0 : 0 < ys.length := by rw [hyl]; decide
  have l1 : 1 < ys.length := by rw [hyl]; decide
  have h0 : DataW.trod enc Tryd.prog w base sp held n 9 (([c0, c1].drop 0).take (Tryd.prog.cellsOf 9)) = some ys[0] := (hf 0 _ rfl).trans (List.getElem?_eq_getElem l0)
  have h1 : DataW.trod enc Tryd.prog w base sp held n 3 (([c0, c1].drop 1).take (Tryd.prog.cellsOf 3)) = some ys[1] := (hf 1 _ rfl).trans (List.getElem?_eq_getElem l1)
  rw [cells_string] at h0
  rw [cells_int] at h1
  obtain ⟨l, e0, hl⟩ := rd_txt Tryd.underlying9 h0 (smallW_field Tryd.underlying47 hs (j := 0) rfl (by rw [List.getElem?_map, List.getElem?_eq_getElem l0]; rfl))
  obtain ⟨m, e1, _, hm⟩ := DataW.trod_int Tryd.underlying3 h1
  have e0' : [c0] = [Value.string ⟨l.toArray⟩] := e0
  have e1' : [c1] = [Value.int .i64 m] := e1
  injection e0' with e0' _
  injection e1' with e1' _
  refine ⟨rfl, (l, m), ⟨hl, bounds_i64 hm⟩, fun b o hc => ⟨hc 0 _ (by rw [e0']; rfl), hc 1 _ (by rw [e1']; rfl)⟩⟩
theorem rd_clrR (h : DataW.trod enc Tryd.prog w base sp held fuel 49 cs = some x) (hs : SmallW Tryd.prog 49 x.1) : cs.length = 2 ∧ ∃ y : Txt × List Txt, (FitsT y.1 ∧ (∀ z ∈ y.2, FitsT z) ∧ y.2.length ≤ maxLen) ∧ ∀ b o, (∀ j u, cs[j]? = some u → w.cell? ⟨b, o + j, none⟩ = some u) → ClrAt w b o y := by
  obtain ⟨ys, n, _, hx, hlen, hyl, hf⟩ := DataW.trod_struct Tryd.underlying49 h
  rw [hx] at hs
  obtain ⟨c0, c1, rfl⟩ := two_of hlen cells_clear
  have l0 : 0 < ys.length := by rw [hyl]; decide
  have l1 : 1 < ys.length := by rw [hyl]; decide
  have h0 : DataW.trod enc Tryd.prog w base sp held n 9 (([c0, c1].drop 0).take (Tryd.prog.cellsOf 9)) = some ys[0] := (hf 0 _ rfl).trans (List.getElem?_eq_getElem l0)
  have h1 : DataW.trod enc Tryd.prog w base sp held n 22 (([c0, c1].drop 1).take (Tryd.prog.cellsOf 22)) = some ys[1] := (hf 1 _ rfl).trans (List.getElem?_eq_getElem l1)
  rw [cells_string] at h0
  rw [cells_strings] at h1
  obtain ⟨l, e0, hl⟩ := rd_txt Tryd.underlying9 h0 (smallW_field Tryd.underlying49 hs (j := 0) rfl (by rw [List.getElem?_map, List.getElem?_eq_getElem l0]; rfl))
  obtain ⟨a, m, c, L, e1, hT, hq, hm⟩ := rd_texts h1 (smallW_field Tryd.underlying49 hs (j := 1) rfl (by rw [List.getElem?_map, List.getElem?_eq_getElem l1]; rfl))
  have e0' : [c0] = [Value.string ⟨l.toArray⟩] := e0
  have e1' : [c1] = [Value.slice a m c] := e1
  injection e0' with e0' _
  injection e1' with e1' _
  refine ⟨rfl, (l, L), ⟨hl, hq, hm⟩, fun b o hc => ⟨hc 0 _ (by rw [e0']; rfl), _, hc 1 _ (by rw [e1']; rfl), hT⟩⟩
theorem atmC_len (a : Atm) : (atmC a).toList.length = 11 := rfl
theorem rd_atmR (h : DataW.trod enc Tryd.prog w base sp held fuel 39 cs = some x) (_ : SmallW Tryd.prog 39 x.1) : cs.length = 11 ∧ ∃ y : Atm, FitsN y ∧ ∀ b o, (∀ j u, cs[j]? = some u → w.cell? ⟨b, o + j, none⟩ = some u) → AtAt w b o y := by
  obtain ⟨a, rfl, hq⟩ := rd_atom h
  refine ⟨rfl, a, hq, fun b o hc j u hu => hc j u ?_⟩
  rw [Array.getElem?_toList]; exact hu
theorem rd_atomsR (h : DataW.trod enc Tryd.prog w base sp held fuel 40 cs = some x) (hs : SmallW Tryd.prog 40 x.1) : ∃ a n c, ∃ L : List Atm, cs = [.slice a n c] ∧ ARow w (.slice a n c) L ∧ (∀ y ∈ L, FitsN y) ∧ L.length ≤ maxLen :=
  rd_krow (R := AtAt) (Q := FitsN) Tryd.underlying40 cells_atom (by decide) (fun h s => rd_atmR h s) h hs
theorem drop_take_app {α : Type} {a b : List α} {n m : Nat} (ha : a.length = n) (hb : b.length = m) : ((a ++ b).drop n).take m = b := by
  subst ha; subst hb
  simp
theorem take_app {α : Type} {a b : List α} {n : Nat} (ha : a.length = n) : ((a ++ b).drop 0).take n = a := by
  subst ha
  simp
theorem cut_at {α : Type} {l : List α} {n m : Nat} (h : l.length = n + m) : ∃ a b, l = a ++ b ∧ a.length = n ∧ b.length = m :=
  ⟨l.take n, l.drop n, (List.take_append_drop _ _).symm, by simp; omega, by simp; omega⟩
theorem rd_rulR (h : DataW.trod enc Tryd.prog w base sp held fuel 42 cs = some x) (hs : SmallW Tryd.prog 42 x.1) : cs.length = 12 ∧ ∃ y : Atm × List Atm, (FitsN y.1 ∧ (∀ z ∈ y.2, FitsN z) ∧ y.2.length ≤ maxLen) ∧ ∀ b o, (∀ j u, cs[j]? = some u → w.cell? ⟨b, o + j, none⟩ = some u) → RulAt w b o y := by
  obtain ⟨ys, n, _, hx, hlen, hyl, hf⟩ := DataW.trod_struct Tryd.underlying42 h
  rw [hx] at hs
  have hl12 : cs.length = 11 + 1 := hlen.trans cells_rule
  obtain ⟨ca, cb, rfl, hca, hcb⟩ := cut_at hl12
  have l0 : 0 < ys.length := by rw [hyl]; decide
  have l1 : 1 < ys.length := by rw [hyl]; decide
  have h0 : DataW.trod enc Tryd.prog w base sp held n 39 (((ca ++ cb).drop 0).take (Tryd.prog.cellsOf 39)) = some ys[0] := (hf 0 _ rfl).trans (List.getElem?_eq_getElem l0)
  have h1 : DataW.trod enc Tryd.prog w base sp held n 40 (((ca ++ cb).drop 11).take (Tryd.prog.cellsOf 40)) = some ys[1] := (hf 1 _ rfl).trans (List.getElem?_eq_getElem l1)
  rw [cells_atom, take_app hca] at h0
  rw [cells_atoms, drop_take_app hca hcb] at h1
  obtain ⟨_, y, hy, hyR⟩ := rd_atmR h0 (smallW_field Tryd.underlying42 hs (j := 0) rfl (by rw [List.getElem?_map, List.getElem?_eq_getElem l0]; rfl))
  obtain ⟨a, m, c, L, e1, hT, hq, hm⟩ := rd_atomsR h1 (smallW_field Tryd.underlying42 hs (j := 1) rfl (by rw [List.getElem?_map, List.getElem?_eq_getElem l1]; rfl))
  refine ⟨hl12, (y, L), ⟨hy, hq, hm⟩, fun b o hc => ⟨hyR b o fun j u hu => hc j u ?_, _, hc 11 _ ?_, hT⟩⟩
  · rw [List.getElem?_append_left (List.getElem?_eq_some_iff.1 hu).1]; exact hu
  · rw [List.getElem?_append_right (by omega), hca, e1]; rfl
theorem rd_grnR (h : DataW.trod enc Tryd.prog w base sp held fuel 54 cs = some x) (hs : SmallW Tryd.prog 54 x.1) : cs.length = 13 ∧ ∃ y : Txt × Atm × List Atm, (FitsT y.1 ∧ FitsN y.2.1 ∧ (∀ z ∈ y.2.2, FitsN z) ∧ y.2.2.length ≤ maxLen) ∧ ∀ b o, (∀ j u, cs[j]? = some u → w.cell? ⟨b, o + j, none⟩ = some u) → GrnAt w b o y := by
  obtain ⟨ys, n, _, hx, hlen, hyl, hf⟩ := DataW.trod_struct Tryd.underlying54 h
  rw [hx] at hs
  have hl13 : cs.length = 1 + (11 + 1) := hlen.trans cells_grant
  obtain ⟨c0, cr, rfl, hc0, hcr⟩ := cut_at hl13
  obtain ⟨ca, cb, rfl, hca, hcb⟩ := cut_at hcr
  have l0 : 0 < ys.length := by rw [hyl]; decide
  have l1 : 1 < ys.length := by rw [hyl]; decide
  have l2 : 2 < ys.length := by rw [hyl]; decide
  have h0 : DataW.trod enc Tryd.prog w base sp held n 9 (((c0 ++ (ca ++ cb)).drop 0).take (Tryd.prog.cellsOf 9)) = some ys[0] := (hf 0 _ rfl).trans (List.getElem?_eq_getElem l0)
  have h1 : DataW.trod enc Tryd.prog w base sp held n 39 (((c0 ++ (ca ++ cb)).drop 1).take (Tryd.prog.cellsOf 39)) = some ys[1] := (hf 1 _ rfl).trans (List.getElem?_eq_getElem l1)
  have h2 : DataW.trod enc Tryd.prog w base sp held n 40 (((c0 ++ (ca ++ cb)).drop 12).take (Tryd.prog.cellsOf 40)) = some ys[2] := (hf 2 _ rfl).trans (List.getElem?_eq_getElem l2)
  rw [cells_string, take_app hc0] at h0
  rw [cells_atom] at h1
  have e11 : ((c0 ++ (ca ++ cb)).drop 1).take 11 = ca := by
    rw [List.drop_append_of_le_length (by omega), List.drop_eq_nil_of_le (by omega), List.nil_append, List.take_append_of_le_length (by omega), List.take_of_length_le (by omega)]
  rw [e11] at h1
  rw [cells_atoms, ← List.append_assoc, drop_take_app (by rw [List.length_append, hc0, hca]) hcb] at h2
  obtain ⟨l, e0, hl⟩ := rd_txt Tryd.underlying9 h0 (smallW_field Tryd.underlying54 hs (j := 0) rfl (by rw [List.getElem?_map, List.getElem?_eq_getElem l0]; rfl))
  obtain ⟨_, y, hy, hyR⟩ := rd_atmR h1 (smallW_field Tryd.underlying54 hs (j := 1) rfl (by rw [List.getElem?_map, List.getElem?_eq_getElem l1]; rfl))
  obtain ⟨a, m, c, L, e1, hT, hq, hm⟩ := rd_atomsR h2 (smallW_field Tryd.underlying54 hs (j := 2) rfl (by rw [List.getElem?_map, List.getElem?_eq_getElem l2]; rfl))
  refine ⟨hl13, (l, y, L), ⟨hl, hy, hq, hm⟩, fun b o hc => ⟨hc 0 _ ?_, hyR b (o + 1) fun j u hu => ?_, _, hc 12 _ ?_, hT⟩⟩
  · rw [e0]; rfl
  · have hj := (List.getElem?_eq_some_iff.1 hu).1
    rw [Nat.add_assoc]
    refine hc (1 + j) u ?_
    rw [List.getElem?_append_right (by omega), hc0, Nat.add_sub_cancel_left, List.getElem?_append_left (by omega)]; exact hu
  · rw [← List.append_assoc, List.getElem?_append_right (by rw [List.length_append]; omega), List.length_append, hc0, hca, e1]; rfl
end
/-- What the readings say of a policy's sizes. -/
def PolBig (P : Pol) : Prop := ((∀ x ∈ P.pr, FitsT x) ∧ P.pr.length ≤ maxLen) ∧ ((∀ x ∈ P.pd, FitsT x.1 ∧ -9223372036854775808 ≤ x.2 ∧ x.2 ≤ 9223372036854775807) ∧ P.pd.length ≤ maxLen) ∧ ((∀ x ∈ P.cl, FitsT x.1 ∧ (∀ z ∈ x.2, FitsT z) ∧ x.2.length ≤ maxLen) ∧ P.cl.length ≤ maxLen) ∧
  (-9223372036854775808 ≤ P.qu ∧ P.qu ≤ 9223372036854775807) ∧ (-9223372036854775808 ≤ P.bu ∧ P.bu ≤ 9223372036854775807) ∧
  ((∀ x ∈ P.ru, FitsN x.1 ∧ (∀ z ∈ x.2, FitsN z) ∧ x.2.length ≤ maxLen) ∧ P.ru.length ≤ maxLen) ∧ ((∀ x ∈ P.gr, FitsT x.1 ∧ FitsN x.2.1 ∧ (∀ z ∈ x.2.2, FitsN z) ∧ x.2.2.length ≤ maxLen) ∧ P.gr.length ≤ maxLen)
section
variable {H : Type} {enc : TypeId × Value → H} {w : World} {base : Nat} {sp : Nat → Bool} {held : Bool} {r : Reach} {b0 : Nat} {v : Value} {d : DataW H} {ps : List MemPlace}
theorem seven_of {cs : List Value} {n : Nat} (h : cs.length = n) (hn : n = 7) : ∃ c0 c1 c2 c3 c4 c5 c6, cs = [c0, c1, c2, c3, c4, c5, c6] := by
  subst hn
  match cs, h with
  | [c0, c1, c2, c3, c4, c5, c6], _ => exact ⟨_, _, _, _, _, _, _, rfl⟩
set_option maxHeartbeats 1000000 in
set_option maxRecDepth 100000 in
theorem open_pol (hval : Value.okWide Tryd.prog w r b0 28 v) (h : DataW.Trod enc Tryd.prog w base sp held 28 v d ps) (hs : SmallW Tryd.prog 28 d) :
    ∃ ap ad ac ar ag : Option Addr, ∃ np cp nd cd nc cc nr cr ng cg : Nat, ∃ qu bu : Int, ∃ P : Pol, v = .agg #[.slice ap np cp, .slice ad nd cd, .slice ac nc cc, .int .i64 qu, .int .i64 bu, .slice ar nr cr, .slice ag ng cg] ∧ PolAt w ap ad ac ar ag np cp nd cd nc cc nr cr ng cg qu bu P ∧ PolBig P := by
  obtain ⟨cs, fuel, rfl, hf⟩ := open_struct' Tryd.underlying28 hval h
  obtain ⟨ys, n, _, hx, hlen, hyl, hf⟩ := DataW.trod_struct Tryd.underlying28 hf
  have hd : d = .agg (ys.map (·.1)) := (Prod.ext_iff.1 hx).1
  rw [hd] at hs
  obtain ⟨cl⟩ := cs
  obtain ⟨c0, c1, c2, c3, c4, c5, c6, e⟩ := seven_of hlen cells_policy
  have e' : cl = [c0, c1, c2, c3, c4, c5, c6] := e
  subst e'
  have l0 : 0 < ys.length := by rw [hyl]; decide
  have l1 : 1 < ys.length := by rw [hyl]; decide
  have l2 : 2 < ys.length := by rw [hyl]; decide
  have l3 : 3 < ys.length := by rw [hyl]; decide
  have l4 : 4 < ys.length := by rw [hyl]; decide
  have l5 : 5 < ys.length := by rw [hyl]; decide
  have l6 : 6 < ys.length := by rw [hyl]; decide
  have h0 : DataW.trod enc Tryd.prog w base sp held n 22 (([c0, c1, c2, c3, c4, c5, c6].drop 0).take (Tryd.prog.cellsOf 22)) = some ys[0] := (hf 0 _ rfl).trans (List.getElem?_eq_getElem l0)
  have h1 : DataW.trod enc Tryd.prog w base sp held n 23 (([c0, c1, c2, c3, c4, c5, c6].drop 1).take (Tryd.prog.cellsOf 23)) = some ys[1] := (hf 1 _ rfl).trans (List.getElem?_eq_getElem l1)
  have h2 : DataW.trod enc Tryd.prog w base sp held n 24 (([c0, c1, c2, c3, c4, c5, c6].drop 2).take (Tryd.prog.cellsOf 24)) = some ys[2] := (hf 2 _ rfl).trans (List.getElem?_eq_getElem l2)
  have h3 : DataW.trod enc Tryd.prog w base sp held n 3 (([c0, c1, c2, c3, c4, c5, c6].drop 3).take (Tryd.prog.cellsOf 3)) = some ys[3] := (hf 3 _ rfl).trans (List.getElem?_eq_getElem l3)
  have h4 : DataW.trod enc Tryd.prog w base sp held n 3 (([c0, c1, c2, c3, c4, c5, c6].drop 4).take (Tryd.prog.cellsOf 3)) = some ys[4] := (hf 4 _ rfl).trans (List.getElem?_eq_getElem l4)
  have h5 : DataW.trod enc Tryd.prog w base sp held n 25 (([c0, c1, c2, c3, c4, c5, c6].drop 5).take (Tryd.prog.cellsOf 25)) = some ys[5] := (hf 5 _ rfl).trans (List.getElem?_eq_getElem l5)
  have h6 : DataW.trod enc Tryd.prog w base sp held n 26 (([c0, c1, c2, c3, c4, c5, c6].drop 6).take (Tryd.prog.cellsOf 26)) = some ys[6] := (hf 6 _ rfl).trans (List.getElem?_eq_getElem l6)
  rw [cells_strings] at h0
  rw [cells_preds] at h1
  rw [cells_clears] at h2
  rw [cells_int] at h3 h4
  rw [cells_rules] at h5
  rw [cells_grants] at h6
  have S := fun {j : Nat} {u : TypeId} {d : DataW H} => smallW_field (j := j) (u := u) (d := d) Tryd.underlying28 hs
  obtain ⟨a0, n0, k0, L0, e0, R0, q0, m0⟩ := rd_texts h0 (S (j := 0) rfl (by rw [List.getElem?_map, List.getElem?_eq_getElem l0]; rfl))
  obtain ⟨a1, n1, k1, L1, e1, R1, q1, m1⟩ := rd_krow (R := PrdAt) (Q := fun y : Txt × Int => FitsT y.1 ∧ -9223372036854775808 ≤ y.2 ∧ y.2 ≤ 9223372036854775807) Tryd.underlying23 cells_pred (by decide) (fun h s => rd_prdR h s) h1 (S (j := 1) rfl (by rw [List.getElem?_map, List.getElem?_eq_getElem l1]; rfl))
  obtain ⟨a2, n2, k2, L2, e2, R2, q2, m2⟩ := rd_krow (R := ClrAt) (Q := fun y : Txt × List Txt => FitsT y.1 ∧ (∀ z ∈ y.2, FitsT z) ∧ y.2.length ≤ maxLen) Tryd.underlying24 cells_clear (by decide) (fun h s => rd_clrR h s) h2 (S (j := 2) rfl (by rw [List.getElem?_map, List.getElem?_eq_getElem l2]; rfl))
  obtain ⟨a5, n5, k5, L5, e5, R5, q5, m5⟩ := rd_krow (R := RulAt) (Q := fun y : Atm × List Atm => FitsN y.1 ∧ (∀ z ∈ y.2, FitsN z) ∧ y.2.length ≤ maxLen) Tryd.underlying25 cells_rule (by decide) (fun h s => rd_rulR h s) h5 (S (j := 5) rfl (by rw [List.getElem?_map, List.getElem?_eq_getElem l5]; rfl))
  obtain ⟨a6, n6, k6, L6, e6, R6, q6, m6⟩ := rd_krow (R := GrnAt) (Q := fun y : Txt × Atm × List Atm => FitsT y.1 ∧ FitsN y.2.1 ∧ (∀ z ∈ y.2.2, FitsN z) ∧ y.2.2.length ≤ maxLen) Tryd.underlying26 cells_grant (by decide) (fun h s => rd_grnR h s) h6 (S (j := 6) rfl (by rw [List.getElem?_map, List.getElem?_eq_getElem l6]; rfl))
  obtain ⟨qu, e3, _, hq⟩ := DataW.trod_int Tryd.underlying3 h3
  obtain ⟨bu, e4, _, hb⟩ := DataW.trod_int Tryd.underlying3 h4
  have e0' : [c0] = [Value.slice a0 n0 k0] := e0
  have e1' : [c1] = [Value.slice a1 n1 k1] := e1
  have e2' : [c2] = [Value.slice a2 n2 k2] := e2
  have e3' : [c3] = [Value.int .i64 qu] := e3
  have e4' : [c4] = [Value.int .i64 bu] := e4
  have e5' : [c5] = [Value.slice a5 n5 k5] := e5
  have e6' : [c6] = [Value.slice a6 n6 k6] := e6
  simp only [List.cons.injEq, and_true] at e0' e1' e2' e3' e4' e5' e6'
  exact ⟨a0, a1, a2, a5, a6, n0, k0, n1, k1, n2, k2, n5, k5, n6, k6, qu, bu, ⟨L0, L1, L2, qu, bu, L5, L6⟩, by rw [e0', e1', e2', e3', e4', e5', e6'], ⟨R0, R1, R2, rfl, rfl, R5, R6⟩, ⟨⟨q0, m0⟩, ⟨q1, m1⟩, ⟨q2, m2⟩, bounds_i64 hq, bounds_i64 hb, ⟨q5, m5⟩, ⟨q6, m6⟩⟩⟩
end
end Go.Proofs.YtpkggopaigledaaDoor
