/- Rows of one's own as blocks with a known beginning; those of the small policy. -/
import Derived.Test.YtpkggopaigledaaDoorFpG
import Derived.Test.YtpkggopaigledaaDoorFoV
import Derived.Deep.MidRow
namespace Go.Proofs.YtpkggopaigledaaDoor
open Go.RowKit

/-- Block b holds elements of type e and begins with these cells. -/
def Rw (W : World) (b : Nat) (e : TypeId) (cs : List Value) : Prop := ∃ cur : Array Value, Cel W b cur e ∧ cs <+: cur.toList
section
variable {W W' : World} {b b' : Nat} {e e' : TypeId} {cs cs' : List Value}
theorem Rw.cell (h : Rw W b e cs) {j : Nat} {u : Value} (hu : cs[j]? = some u) : W.cell? ⟨b, j, none⟩ = some u := by
  obtain ⟨cur, hc, r, hr⟩ := h
  rw [hc.cell j, ← Array.getElem?_toList, ← hr, List.getElem?_append_left (List.getElem?_eq_some_iff.1 hu).1]
  exact hu
theorem Rw.free (h : Rw W b e cs) (j : Nat) : W.frozen? ⟨b, j, none⟩ = false := by
  obtain ⟨cur, hc, _⟩ := h
  exact hc.free j
theorem Rw.lt (h : Rw W b e cs) : b < W.heap.size := by
  obtain ⟨cur, hc, _⟩ := h
  exact hc.lt
theorem Rw.next (h : Rw W b e cs) (hs : Since W W') : Rw W' b e cs := by
  obtain ⟨cur, hc, hp⟩ := h
  exact ⟨cur, hc.next hs, hp⟩
theorem Rw.set (h : Rw W b e cs) {j : Nat} {u : Value} {ds : List Value} (hd : cs.set j u = ds) : Rw (W.setCell ⟨b, j, none⟩ u) b e ds := by
  obtain ⟨cur, hc, r, hr⟩ := h
  subst hd
  refine ⟨cur.setIfInBounds j u, hc.set rfl, ?_⟩
  rw [Array.toList_setIfInBounds, ← hr, List.set_append]
  split
  · exact ⟨r, rfl⟩
  · rename_i hj
    rw [List.set_eq_of_length_le (by omega)]
    exact ⟨_, rfl⟩
theorem Rw.far (h : Rw W b e cs) (hne : b ≠ b') {j : Nat} {u : Value} : Rw (W.setCell ⟨b', j, none⟩ u) b e cs := by
  obtain ⟨cur, hc, hp⟩ := h
  exact ⟨cur, hc.far hne u, hp⟩
def putL : List Value → Nat → List Value → List Value
  | cs, _, [] => cs
  | cs, o, v :: r => putL (cs.set o v) (o + 1) r
theorem Rw.sets : ∀ {vs : List Value} {W : World} {o : Nat} {cs : List Value}, Rw W b e cs → Rw (W.setCells b o vs) b e (putL cs o vs)
  | [], _, _, _, h => h
  | v :: r, _, o, _, h => Rw.sets (vs := r) (h.set (j := o) (u := v) rfl)
theorem Rw.fars (hne : b ≠ b') : ∀ {vs : List Value} {W : World} {o : Nat}, Rw W b e cs → Rw (W.setCells b' o vs) b e cs
  | [], _, _, h => h
  | v :: r, _, o, h => Rw.fars hne (vs := r) (h.far hne (j := o) (u := v))
theorem Rw.ne (h : Rw W b e cs) (h' : Rw W b' e' cs') (he : e ≠ e') : b ≠ b' := by
  intro hb
  subst hb
  obtain ⟨c1, h1, _⟩ := h
  obtain ⟨c2, h2, _⟩ := h'
  unfold Cel at h1 h2
  rw [h1] at h2
  injection h2 with h2
  injection h2 with _ h2
  exact he h2
theorem Rw.of_own {B K n c m : Nat} (h : W.ownsRow B e K (.slice (some ⟨b, 0, none⟩) n c) m cs) : Rw W b e cs := by
  obtain ⟨hl, ⟨h1, h2⟩ | ⟨g, cap, cur, hv, hgb, hg, _, _, _, ht⟩⟩ := h
  · cases h1
  · cases hv
    exact ⟨cur, hg, by rw [← ht]; exact List.take_prefix _ _⟩
theorem Rw.of_cel {c : Array Value} (h : Cel W b c e) (hc : c.toList = cs) : Rw W b e cs := ⟨c, h, by rw [hc]; exact ⟨[], by simp⟩⟩
theorem Rw.row {α : Type} {K c : Nat} {R : World → Nat → Nat → α → Prop} {f : α → List Value} {L : List α} (hf : ∀ x, (f x).length = K)
    (hR : ∀ b o x, x ∈ L → (∀ j u, (f x)[j]? = some u → W.cell? ⟨b, o + j, none⟩ = some u) → R W b o x) (h : Rw W b e (L.flatMap f)) (hc : L.length ≤ c) : KRow K R W (.slice (some ⟨b, 0, none⟩) L.length c) L := by
  refine ⟨_, _, rfl, hc, fun _ => ⟨b, 0, rfl, fun k hk => hR b _ _ (List.getElem_mem hk) fun j u hu => ?_⟩⟩
  have hj : j < K := by rw [← hf L[k]]; exact (List.getElem?_eq_some_iff.1 hu).1
  rw [Nat.zero_add]
  exact h.cell (by rw [flat_at hf L k hk j hj]; exact hu)
theorem Rw.trow {L : List Txt} {c : Nat} (h : Rw W b e (L.flatMap txtL)) (hc : L.length ≤ c) : TRow W (.slice (some ⟨b, 0, none⟩) L.length c) L := h.row (fun _ => rfl) (fun _ _ _ _ hc => hc 0 _ rfl) hc
theorem Rw.prow {L : List (Txt × Int)} {c : Nat} (h : Rw W b e (L.flatMap prdL)) (hc : L.length ≤ c) : PRow W (.slice (some ⟨b, 0, none⟩) L.length c) L := h.row (fun _ => rfl) (fun _ _ _ _ hc => ⟨hc 0 _ rfl, hc 1 _ rfl⟩) hc
theorem Rw.arow {L : List Atm} {c : Nat} (h : Rw W b e (L.flatMap atmL)) (hc : L.length ≤ c) : ARow W (.slice (some ⟨b, 0, none⟩) L.length c) L :=
  h.row (fun _ => rfl) (fun _ _ _ _ hc j u hu => hc j u (by rw [← hu]; exact Array.getElem?_toList)) hc
end
theorem krow_single {α : Type} {K : Nat} {R : World → Nat → Nat → α → Prop} {W : World} {b c : Nat} {x : α} (hc : 1 ≤ c) (h : R W b (0 + 0 * K) x) : KRow K R W (.slice (some ⟨b, 0, none⟩) 1 c) [x] := by
  refine ⟨_, _, rfl, hc, fun _ => ⟨b, 0, rfl, fun k hk => ?_⟩⟩
  match k, hk with
  | 0, _ => exact h
theorem pol_rows {W : World} {b0 b1 b2 b5 b6 n0 n1 c0 c1 c2 c5 c6 : Nat} {e0 e1 e2 e5 e6 : TypeId} {pr : List Txt} {pd : List (Txt × Int)} {s t : Txt} {T : List Txt} {x y : Atm} {B D : List Atm} {u2 u5 u6 : Value} {qu bu : Int}
    (h0 : Rw W b0 e0 (pr.flatMap txtL)) (h1 : Rw W b1 e1 (pd.flatMap prdL)) (h2 : Rw W b2 e2 (clrC (s, T) u2)) (i2 : TRow W u2 T) (h5 : Rw W b5 e5 (rulC (x, B) u5)) (i5 : ARow W u5 B) (h6 : Rw W b6 e6 (grnC (t, y, D) u6)) (i6 : ARow W u6 D)
    (l0 : pr.length ≤ c0) (l1 : pd.length ≤ c1) (l2 : 1 ≤ c2) (l5 : 1 ≤ c5) (l6 : 1 ≤ c6) (m0 : pr.length = n0) (m1 : pd.length = n1) :
    PolAt W (some ⟨b0, 0, none⟩) (some ⟨b1, 0, none⟩) (some ⟨b2, 0, none⟩) (some ⟨b5, 0, none⟩) (some ⟨b6, 0, none⟩) n0 c0 n1 c1 1 c2 1 c5 1 c6 qu bu ⟨pr, pd, [(s, T)], qu, bu, [(x, B)], [(t, y, D)]⟩ := by
  subst m0
  subst m1
  refine ⟨h0.trow l0, h1.prow l1, krow_single l2 ⟨h2.cell (j := 0) rfl, u2, h2.cell (j := 1) rfl, i2⟩, rfl, rfl, krow_single l5 ⟨fun j u hu => ?_, u5, h5.cell (j := 11) rfl, i5⟩, krow_single l6 ⟨h6.cell (j := 0) rfl, fun j u hu => ?_, u6, h6.cell (j := 12) rfl, i6⟩⟩
  · have hj : j < (atmC x).toList.length := by rw [Array.length_toList]; exact (Array.getElem?_eq_some_iff.1 hu).1
    have h : W.cell? ⟨b5, j, none⟩ = some u := h5.cell (by show ((atmC x).toList ++ [u5])[j]? = some u; rw [List.getElem?_append_left hj, Array.getElem?_toList]; exact hu)
    simpa using h
  · have hj : j < (atmC y).toList.length := by rw [Array.length_toList]; exact (Array.getElem?_eq_some_iff.1 hu).1
    have h : W.cell? ⟨b6, j + 1, none⟩ = some u := h6.cell (by show (strV t :: ((atmC y).toList ++ [u6]))[j + 1]? = some u; rw [List.getElem?_cons_succ, List.getElem?_append_left hj, Array.getElem?_toList]; exact hu)
    rw [Nat.add_comm] at h
    simpa using h

structure SR (W : World) (b0 b1 b2 b3 b4 b5 b6 b7 g : Nat) (q0 q1 q2 q3 q4 q5 q6 q7 qg : List Value) : Prop where
  r0 : Rw W b0 9 q0
  r1 : Rw W b1 47 q1
  r2 : Rw W b2 49 q2
  r3 : Rw W b3 9 q3
  r4 : Rw W b4 39 q4
  r5 : Rw W b5 42 q5
  r6 : Rw W b6 54 q6
  r7 : Rw W b7 39 q7
  rg : Rw W g 28 qg
  n03 : b0 ≠ b3
  n47 : b4 ≠ b7
section
variable {W W' : World} {b0 b1 b2 b3 b4 b5 b6 b7 g : Nat} {q0 q1 q2 q3 q4 q5 q6 q7 qg : List Value}
theorem SR.next (h : SR W b0 b1 b2 b3 b4 b5 b6 b7 g q0 q1 q2 q3 q4 q5 q6 q7 qg) (hs : Since W W') : SR W' b0 b1 b2 b3 b4 b5 b6 b7 g q0 q1 q2 q3 q4 q5 q6 q7 qg :=
  ⟨h.r0.next hs, h.r1.next hs, h.r2.next hs, h.r3.next hs, h.r4.next hs, h.r5.next hs, h.r6.next hs, h.r7.next hs, h.rg.next hs, h.n03, h.n47⟩
theorem SR.set0 (h : SR W b0 b1 b2 b3 b4 b5 b6 b7 g q0 q1 q2 q3 q4 q5 q6 q7 qg) {j : Nat} {u : Value} {ds : List Value} (hd : q0.set j u = ds) : SR (W.setCell ⟨b0, j, none⟩ u) b0 b1 b2 b3 b4 b5 b6 b7 g ds q1 q2 q3 q4 q5 q6 q7 qg :=
  ⟨h.r0.set hd, h.r1.far (h.r1.ne h.r0 (by decide)), h.r2.far (h.r2.ne h.r0 (by decide)), h.r3.far (Ne.symm h.n03), h.r4.far (h.r4.ne h.r0 (by decide)), h.r5.far (h.r5.ne h.r0 (by decide)), h.r6.far (h.r6.ne h.r0 (by decide)), h.r7.far (h.r7.ne h.r0 (by decide)), h.rg.far (h.rg.ne h.r0 (by decide)), h.n03, h.n47⟩
theorem SR.set1 (h : SR W b0 b1 b2 b3 b4 b5 b6 b7 g q0 q1 q2 q3 q4 q5 q6 q7 qg) {j : Nat} {u : Value} {ds : List Value} (hd : q1.set j u = ds) : SR (W.setCell ⟨b1, j, none⟩ u) b0 b1 b2 b3 b4 b5 b6 b7 g q0 ds q2 q3 q4 q5 q6 q7 qg :=
  ⟨h.r0.far (h.r0.ne h.r1 (by decide)), h.r1.set hd, h.r2.far (h.r2.ne h.r1 (by decide)), h.r3.far (h.r3.ne h.r1 (by decide)), h.r4.far (h.r4.ne h.r1 (by decide)), h.r5.far (h.r5.ne h.r1 (by decide)), h.r6.far (h.r6.ne h.r1 (by decide)), h.r7.far (h.r7.ne h.r1 (by decide)), h.rg.far (h.rg.ne h.r1 (by decide)), h.n03, h.n47⟩
theorem SR.set2 (h : SR W b0 b1 b2 b3 b4 b5 b6 b7 g q0 q1 q2 q3 q4 q5 q6 q7 qg) {j : Nat} {u : Value} {ds : List Value} (hd : q2.set j u = ds) : SR (W.setCell ⟨b2, j, none⟩ u) b0 b1 b2 b3 b4 b5 b6 b7 g q0 q1 ds q3 q4 q5 q6 q7 qg :=
  ⟨h.r0.far (h.r0.ne h.r2 (by decide)), h.r1.far (h.r1.ne h.r2 (by decide)), h.r2.set hd, h.r3.far (h.r3.ne h.r2 (by decide)), h.r4.far (h.r4.ne h.r2 (by decide)), h.r5.far (h.r5.ne h.r2 (by decide)), h.r6.far (h.r6.ne h.r2 (by decide)), h.r7.far (h.r7.ne h.r2 (by decide)), h.rg.far (h.rg.ne h.r2 (by decide)), h.n03, h.n47⟩
theorem SR.set3 (h : SR W b0 b1 b2 b3 b4 b5 b6 b7 g q0 q1 q2 q3 q4 q5 q6 q7 qg) {j : Nat} {u : Value} {ds : List Value} (hd : q3.set j u = ds) : SR (W.setCell ⟨b3, j, none⟩ u) b0 b1 b2 b3 b4 b5 b6 b7 g q0 q1 q2 ds q4 q5 q6 q7 qg :=
  ⟨h.r0.far h.n03, h.r1.far (h.r1.ne h.r3 (by decide)), h.r2.far (h.r2.ne h.r3 (by decide)), h.r3.set hd, h.r4.far (h.r4.ne h.r3 (by decide)), h.r5.far (h.r5.ne h.r3 (by decide)), h.r6.far (h.r6.ne h.r3 (by decide)), h.r7.far (h.r7.ne h.r3 (by decide)), h.rg.far (h.rg.ne h.r3 (by decide)), h.n03, h.n47⟩
theorem SR.set4 (h : SR W b0 b1 b2 b3 b4 b5 b6 b7 g q0 q1 q2 q3 q4 q5 q6 q7 qg) {j : Nat} {u : Value} {ds : List Value} (hd : q4.set j u = ds) : SR (W.setCell ⟨b4, j, none⟩ u) b0 b1 b2 b3 b4 b5 b6 b7 g q0 q1 q2 q3 ds q5 q6 q7 qg :=
  ⟨h.r0.far (h.r0.ne h.r4 (by decide)), h.r1.far (h.r1.ne h.r4 (by decide)), h.r2.far (h.r2.ne h.r4 (by decide)), h.r3.far (h.r3.ne h.r4 (by decide)), h.r4.set hd, h.r5.far (h.r5.ne h.r4 (by decide)), h.r6.far (h.r6.ne h.r4 (by decide)), h.r7.far (Ne.symm h.n47), h.rg.far (h.rg.ne h.r4 (by decide)), h.n03, h.n47⟩
theorem SR.sets4 (h : SR W b0 b1 b2 b3 b4 b5 b6 b7 g q0 q1 q2 q3 q4 q5 q6 q7 qg) {j : Nat} {vs ds : List Value} (hd : putL q4 j vs = ds) : SR (W.setCells b4 j vs) b0 b1 b2 b3 b4 b5 b6 b7 g q0 q1 q2 q3 ds q5 q6 q7 qg :=
  ⟨h.r0.fars (h.r0.ne h.r4 (by decide)), h.r1.fars (h.r1.ne h.r4 (by decide)), h.r2.fars (h.r2.ne h.r4 (by decide)), h.r3.fars (h.r3.ne h.r4 (by decide)), hd ▸ h.r4.sets, h.r5.fars (h.r5.ne h.r4 (by decide)), h.r6.fars (h.r6.ne h.r4 (by decide)), h.r7.fars (Ne.symm h.n47), h.rg.fars (h.rg.ne h.r4 (by decide)), h.n03, h.n47⟩
theorem SR.set5 (h : SR W b0 b1 b2 b3 b4 b5 b6 b7 g q0 q1 q2 q3 q4 q5 q6 q7 qg) {j : Nat} {u : Value} {ds : List Value} (hd : q5.set j u = ds) : SR (W.setCell ⟨b5, j, none⟩ u) b0 b1 b2 b3 b4 b5 b6 b7 g q0 q1 q2 q3 q4 ds q6 q7 qg :=
  ⟨h.r0.far (h.r0.ne h.r5 (by decide)), h.r1.far (h.r1.ne h.r5 (by decide)), h.r2.far (h.r2.ne h.r5 (by decide)), h.r3.far (h.r3.ne h.r5 (by decide)), h.r4.far (h.r4.ne h.r5 (by decide)), h.r5.set hd, h.r6.far (h.r6.ne h.r5 (by decide)), h.r7.far (h.r7.ne h.r5 (by decide)), h.rg.far (h.rg.ne h.r5 (by decide)), h.n03, h.n47⟩
theorem SR.set6 (h : SR W b0 b1 b2 b3 b4 b5 b6 b7 g q0 q1 q2 q3 q4 q5 q6 q7 qg) {j : Nat} {u : Value} {ds : List Value} (hd : q6.set j u = ds) : SR (W.setCell ⟨b6, j, none⟩ u) b0 b1 b2 b3 b4 b5 b6 b7 g q0 q1 q2 q3 q4 q5 ds q7 qg :=
  ⟨h.r0.far (h.r0.ne h.r6 (by decide)), h.r1.far (h.r1.ne h.r6 (by decide)), h.r2.far (h.r2.ne h.r6 (by decide)), h.r3.far (h.r3.ne h.r6 (by decide)), h.r4.far (h.r4.ne h.r6 (by decide)), h.r5.far (h.r5.ne h.r6 (by decide)), h.r6.set hd, h.r7.far (h.r7.ne h.r6 (by decide)), h.rg.far (h.rg.ne h.r6 (by decide)), h.n03, h.n47⟩
theorem SR.sets6 (h : SR W b0 b1 b2 b3 b4 b5 b6 b7 g q0 q1 q2 q3 q4 q5 q6 q7 qg) {j : Nat} {vs ds : List Value} (hd : putL q6 j vs = ds) : SR (W.setCells b6 j vs) b0 b1 b2 b3 b4 b5 b6 b7 g q0 q1 q2 q3 q4 q5 ds q7 qg :=
  ⟨h.r0.fars (h.r0.ne h.r6 (by decide)), h.r1.fars (h.r1.ne h.r6 (by decide)), h.r2.fars (h.r2.ne h.r6 (by decide)), h.r3.fars (h.r3.ne h.r6 (by decide)), h.r4.fars (h.r4.ne h.r6 (by decide)), h.r5.fars (h.r5.ne h.r6 (by decide)), hd ▸ h.r6.sets, h.r7.fars (h.r7.ne h.r6 (by decide)), h.rg.fars (h.rg.ne h.r6 (by decide)), h.n03, h.n47⟩
theorem SR.set7 (h : SR W b0 b1 b2 b3 b4 b5 b6 b7 g q0 q1 q2 q3 q4 q5 q6 q7 qg) {j : Nat} {u : Value} {ds : List Value} (hd : q7.set j u = ds) : SR (W.setCell ⟨b7, j, none⟩ u) b0 b1 b2 b3 b4 b5 b6 b7 g q0 q1 q2 q3 q4 q5 q6 ds qg :=
  ⟨h.r0.far (h.r0.ne h.r7 (by decide)), h.r1.far (h.r1.ne h.r7 (by decide)), h.r2.far (h.r2.ne h.r7 (by decide)), h.r3.far (h.r3.ne h.r7 (by decide)), h.r4.far h.n47, h.r5.far (h.r5.ne h.r7 (by decide)), h.r6.far (h.r6.ne h.r7 (by decide)), h.r7.set hd, h.rg.far (h.rg.ne h.r7 (by decide)), h.n03, h.n47⟩
theorem SR.setg (h : SR W b0 b1 b2 b3 b4 b5 b6 b7 g q0 q1 q2 q3 q4 q5 q6 q7 qg) {j : Nat} {u : Value} {ds : List Value} (hd : qg.set j u = ds) : SR (W.setCell ⟨g, j, none⟩ u) b0 b1 b2 b3 b4 b5 b6 b7 g q0 q1 q2 q3 q4 q5 q6 q7 ds :=
  ⟨h.r0.far (h.r0.ne h.rg (by decide)), h.r1.far (h.r1.ne h.rg (by decide)), h.r2.far (h.r2.ne h.rg (by decide)), h.r3.far (h.r3.ne h.rg (by decide)), h.r4.far (h.r4.ne h.rg (by decide)), h.r5.far (h.r5.ne h.rg (by decide)), h.r6.far (h.r6.ne h.rg (by decide)), h.r7.far (h.r7.ne h.rg (by decide)), h.rg.set hd, h.n03, h.n47⟩
end
theorem own_block {W : World} {B : Nat} {e : TypeId} {K : Nat} {a : Option Addr} {n c m : Nat} {xs : List Value} (h : W.ownsRow B e K (.slice a n c) m xs) (h0 : 0 < m) : ∃ b, a = some ⟨b, 0, none⟩ ∧ B ≤ b := by
  obtain ⟨hl, ⟨h1, h2⟩ | ⟨g, cap, cur, hv, hgb, r⟩⟩ := h
  · omega
  · cases hv; exact ⟨g, rfl, hgb⟩
theorem own_cap {W : World} {B : Nat} {e : TypeId} {K : Nat} {a : Option Addr} {n c m : Nat} {xs : List Value} (h : W.ownsRow B e K (.slice a n c) m xs) : n ≤ c := by
  rcases row_of_own h with ⟨h1, h2, h3⟩ | ⟨b, o, c', h1, h2, h3⟩
  · cases h1; omega
  · cases h1; omega
def smS2 : Txt := [97, 108, 105, 99, 101]
def smR2 : List Txt := [[99, 97, 114, 111, 108], [98, 111, 98]]
def smX5 : Atm := ([97, 108, 105, 99, 101], [112], 1, (true, [88]), (false, []), (false, []), (false, []))
def smB5 : List Atm := [([98, 111, 98], [113], 2, (true, [88]), (true, [89]), (false, []), (false, [])), ([99, 97, 114, 111, 108], [112], 1, (true, [89]), (false, []), (false, []), (false, []))]
def smT6 : Txt := [98, 111, 98]
def smX6 : Atm := ([97, 108, 105, 99, 101], [113], 2, (true, [88]), (true, [89]), (false, []), (false, []))
def smB6 : List Atm := [([99, 97, 114, 111, 108], [112], 1, (true, [88]), (false, []), (false, []), (false, []))]
theorem map_one {α : Type} {L : List (α × Value)} {x : α} (h : L.map Prod.fst = [x]) : ∃ u, L = [(x, u)] := by
  match L, h with
  | [(y, u)], h => injection h with h _; exact ⟨u, by rw [show y = x from h]⟩
theorem small_rows {W : World} {B gB : Nat} {a0 a1 a2 a5 a6 : Option Addr} {c0 c1 c2 c5 c6 : Nat} {qg : Array Value} {C : List ((Txt × List Txt) × Value)} {U : List ((Atm × List Atm) × Value)} {G : List ((Txt × Atm × List Atm) × Value)}
    (hR : OwnRows W B (.slice a0 smallP.pr.length c0) (.slice a1 smallP.pd.length c1) (.slice a2 C.length c2) (.slice a5 U.length c5) (.slice a6 G.length c6) smallP.pr smallP.pd C U G) (hC : Cel W gB qg 28) (eC : C.map Prod.fst = smallP.cl) (eU : U.map Prod.fst = smallP.ru) (eG : G.map Prod.fst = smallP.gr) :
    ∃ b0 b1 b2 b3 b4 b5 b6 b7 k3 k4 k7 : Nat, a0 = some ⟨b0, 0, none⟩ ∧ a1 = some ⟨b1, 0, none⟩ ∧ a2 = some ⟨b2, 0, none⟩ ∧ a5 = some ⟨b5, 0, none⟩ ∧ a6 = some ⟨b6, 0, none⟩ ∧ C.length = 1 ∧ U.length = 1 ∧ G.length = 1 ∧ (B ≤ b0 ∧ B ≤ b1 ∧ B ≤ b2 ∧ B ≤ b3 ∧ B ≤ b4 ∧ B ≤ b5 ∧ B ≤ b6 ∧ B ≤ b7) ∧ (3 ≤ c0 ∧ 3 ≤ c1 ∧ 1 ≤ c2 ∧ 2 ≤ k3 ∧ 2 ≤ k4 ∧ 1 ≤ c5 ∧ 1 ≤ c6 ∧ 1 ≤ k7) ∧
      SR W b0 b1 b2 b3 b4 b5 b6 b7 gB (smallP.pr.flatMap txtL) (smallP.pd.flatMap prdL) (clrC (smS2, smR2) (.slice (some ⟨b3, 0, none⟩) 2 k3)) (smR2.flatMap txtL) (smB5.flatMap atmL) (rulC (smX5, smB5) (.slice (some ⟨b4, 0, none⟩) 2 k4)) (grnC (smT6, smX6, smB6) (.slice (some ⟨b7, 0, none⟩) 1 k7)) (smB6.flatMap atmL) qg.toList := by
  obtain ⟨u2, rfl⟩ := map_one (x := (smS2, smR2)) eC
  obtain ⟨u5, rfl⟩ := map_one (x := (smX5, smB5)) eU
  obtain ⟨u6, rfl⟩ := map_one (x := (smT6, smX6, smB6)) eG
  have i2 : W.ownsRow B 9 1 u2 2 (smR2.flatMap txtL) := hR.h2.ins _ (List.mem_singleton_self _)
  have i5 : W.ownsRow B 39 11 u5 2 (smB5.flatMap atmL) := hR.h5.ins _ (List.mem_singleton_self _)
  have i6 : W.ownsRow B 39 11 u6 1 (smB6.flatMap atmL) := hR.h6.ins _ (List.mem_singleton_self _)
  obtain ⟨a3, k3, rfl⟩ := own_slice i2
  obtain ⟨a4, k4, rfl⟩ := own_slice i5
  obtain ⟨a7, k7, rfl⟩ := own_slice i6
  obtain ⟨b0, rfl, t0⟩ := own_block hR.h0 (by decide)
  obtain ⟨b1, rfl, t1⟩ := own_block hR.h1 (by decide)
  obtain ⟨b2, rfl, t2⟩ := own_block hR.h2.row (Nat.zero_lt_succ _)
  obtain ⟨b5, rfl, t5⟩ := own_block hR.h5.row (Nat.zero_lt_succ _)
  obtain ⟨b6, rfl, t6⟩ := own_block hR.h6.row (Nat.zero_lt_succ _)
  obtain ⟨b3, rfl, t3⟩ := own_block i2 (show 0 < 2 by decide)
  obtain ⟨b4, rfl, t4⟩ := own_block i5 (show 0 < 2 by decide)
  obtain ⟨b7, rfl, t7⟩ := own_block i6 (show 0 < 1 by decide)
  refine ⟨b0, b1, b2, b3, b4, b5, b6, b7, k3, k4, k7, rfl, rfl, rfl, rfl, rfl, rfl, rfl, rfl, ⟨t0, t1, t2, t3, t4, t5, t6, t7⟩, ⟨own_cap hR.h0, own_cap hR.h1, own_cap hR.h2.row, own_cap i2, own_cap i5, own_cap hR.h5.row, own_cap hR.h6.row, own_cap i6⟩, ?_⟩
  refine ⟨Rw.of_own hR.h0, Rw.of_own hR.h1, ?_, Rw.of_own i2, Rw.of_own i5, ?_, ?_, Rw.of_own i6, Rw.of_cel hC rfl, ?_, ?_⟩
  · have := Rw.of_own hR.h2.row
    simpa using this
  · have := Rw.of_own hR.h5.row
    simpa using this
  · have := Rw.of_own hR.h6.row
    simpa using this
  · rcases hR.h02 _ (List.mem_singleton_self _) with h | h
    · cases h
    · exact fun e => h (by rw [e]; rfl)
  · rcases hR.h56 _ (List.mem_singleton_self _) _ (List.mem_singleton_self _) with h | h
    · cases h
    · exact fun e => h (by rw [e]; rfl)
end Go.Proofs.YtpkggopaigledaaDoor
