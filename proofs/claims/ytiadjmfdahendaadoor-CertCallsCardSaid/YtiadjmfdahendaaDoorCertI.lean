/- The reader's step (under way). Steps in a row of the call's own, each with its cites in a row of its own. -/
import Derived.Test.YtiadjmfdahendaaDoorCertG
import Derived.Test.YtiadjmfdahendaaDoorCertS
import Derived.Lib.OwnKind
import Derived.Laws.OwnMore
namespace Go.Proofs.YtiadjmfdahendaaDoor
open Go.RowKit

/-- A step's thirteen cells. -/
def stpA (x : Stp) (v : Value) : Array Value := #[.string ⟨x.1.1.toArray⟩, .string ⟨x.1.2.1.toArray⟩, .int .i64 x.1.2.2.1, .bool x.1.2.2.2.1.1, .string ⟨x.1.2.2.2.1.2.toArray⟩, .bool x.1.2.2.2.2.1.1, .string ⟨x.1.2.2.2.2.1.2.toArray⟩, .bool x.1.2.2.2.2.2.1.1, .string ⟨x.1.2.2.2.2.2.1.2.toArray⟩, .bool x.1.2.2.2.2.2.2.1, .string ⟨x.1.2.2.2.2.2.2.2.toArray⟩, .int .i64 x.2.1, v]
def BlkS (W : World) (B : Nat) (x : Stp) (v : Value) : Prop := W.heap[B]? = some (.cells (stpA x v) 39 (0, 0))
section
variable {W W' : World} {B g : Nat} {x : Stp} {v : Value}
theorem BlkS.cell (h : BlkS W B x v) (j : Nat) : W.cell? ⟨B, j, none⟩ = (stpA x v)[j]? := by
  unfold BlkS at h
  simp [World.cell?, h]
theorem BlkS.free (h : BlkS W B x v) (j : Nat) : W.frozen? ⟨B, j, none⟩ = false := by
  unfold BlkS at h; simp [World.frozen?, h]
theorem BlkS.lt (h : BlkS W B x v) : B < W.heap.size := (Array.getElem?_eq_some_iff.1 h).1
theorem BlkS.grown {row : Option Nat} (h : BlkS W B x v) (hg : W.grownBy W' row) (hr : some B ≠ row) : BlkS W' B x v := (hg.block B h.lt hr).trans h
theorem BlkS.next (h : BlkS W B x v) (hs : Since W W') : BlkS W' B x v := (Below.block hs B h.lt).trans h
theorem BlkS.far (h : BlkS W B x v) {p : Addr} (hp : B ≠ p.block) (u : Value) : BlkS (W.setCell p u) B x v := (Below.heap_setCell W p u B hp).trans h
theorem BlkS.set (h : BlkS W B x v) {j : Nat} {u : Value} {x' : Stp} {v' : Value} (he : (stpA x v).setIfInBounds j u = stpA x' v') : BlkS (W.setCell ⟨B, j, none⟩ u) B x' v' := by
  unfold BlkS at h ⊢
  rw [setCell_eq_setRow W B j _ _ (0, 0) _ h, setRow_heap W B _ _ _ (0, 0) h, he]
end
def RStepPost (s : List UInt8) (i : Nat) (bad : Bool) (g : Nat) (T : TypeId) (w : World) (e : Ending) (w' : World) : Prop :=
  ∃ sv, e = .returned (.agg (stpA (stepS s i bad).1 sv)) ∧ w'.ownsRow w.heap.size 3 1 sv (stepS s i bad).1.2.2.length ((stepS s i bad).1.2.2.map intV) ∧ Rdr w' g T s (stepS s i bad).2.1 (stepS s i bad).2.2 ∧ w.grownBy w' (some g)
end Go.Proofs.YtiadjmfdahendaaDoor

namespace Go.Proofs.YtiadjmfdahendaaDoor
open Go.RowKit

theorem own_apart {w : World} {B1 B2 : Nat} {e1 e2 : TypeId} {s1 s2 : Nat} {v1 v2 : Value} {n1 n2 : Nat} {x1 x2 : List Value} (h1 : w.ownsRow B1 e1 s1 v1 n1 x1) (h2 : w.ownsRow B2 e2 s2 v2 n2 x2) (he : e1 ≠ e2) : v1.ownBlock = none ∨ v1.ownBlock ≠ v2.ownBlock := by
  cases hb : v1.ownBlock with
  | none => exact .inl rfl
  | some b =>
    refine .inr fun h => ?_
    obtain ⟨c1, f1, k1⟩ := Lib.ownsRow_kind h1 b hb
    obtain ⟨c2, f2, k2⟩ := Lib.ownsRow_kind h2 b h.symm
    rw [k1] at k2
    injection k2 with k2
    injection k2 with _ k2
    exact he k2
def rowP (P : List (Stp × Value)) : List Value := P.flatMap fun p => (stpA p.1 p.2).toList
theorem stpA_len (x : Stp) (v : Value) : (stpA x v).toList.length = 13 := rfl
theorem rowP_len : ∀ P : List (Stp × Value), (rowP P).length = P.length * 13
  | [] => rfl
  | p :: r => by
    have := rowP_len r
    rw [rowP, List.flatMap_cons, List.length_append, stpA_len, List.length_cons]
    rw [rowP] at this
    omega
theorem rowP_at : ∀ (P : List (Stp × Value)) (k j : Nat) (hk : k < P.length), j < 13 → (rowP P)[k * 13 + j]? = (stpA P[k].1 P[k].2).toList[j]?
  | p :: r, 0, j, hk, hj => by
    rw [rowP, List.flatMap_cons, List.getElem?_append_left (by rw [stpA_len]; omega)]
    simp
  | p :: r, k + 1, j, hk, hj => by
    have h := rowP_at r k j (by simpa using hk) hj
    rw [rowP, List.flatMap_cons, List.getElem?_append_right (by rw [stpA_len]; omega), stpA_len]
    rw [rowP] at h
    rw [show (k + 1) * 13 + j - 13 = k * 13 + j by omega, h]
    rfl
def OutRow (W : World) (base : Nat) (v : Value) (P : List (Stp × Value)) : Prop :=
  W.ownsRow base 39 13 v P.length (rowP P) ∧ ∀ p ∈ P, W.ownsRow base 3 1 p.2 p.1.2.2.length (p.1.2.2.map intV)
theorem OutRow.nil (W : World) (base : Nat) : OutRow W base (.slice none 0 0) [] := ⟨World.ownsRow_nil _ _ _ _, fun p hp => by cases hp⟩
theorem own_far {w w' : World} {base g : Nat} {e : TypeId} {size : Nat} {v : Value} {n : Nat} {xs : List Value} (h : w.ownsRow base e size v n xs) (hg : w.grownBy w' (some g)) (hb : g < base) : w'.ownsRow base e size v n xs := by
  refine h.kept hg ?_
  cases hv : v.ownBlock with
  | none => exact .inl rfl
  | some b =>
    refine .inr fun he => ?_
    injection he with he
    have := (h.lt b hv).1
    omega
theorem gown {w W W' : World} {g : Nat} {row : Option Nat} (h : w.grownBy W (some g)) (k : W.grownBy W' row) (hr : ∀ b, row = some b → w.heap.size ≤ b) : w.grownBy W' (some g) :=
  ⟨k.os.trans h.os, k.tape.trans h.tape, k.output.trans h.output, Nat.le_trans h.size k.size, fun b hb hne => (k.block b (Nat.lt_of_lt_of_le hb h.size) (fun e => by have := hr b e.symm; omega)).trans (h.block b hb hne)⟩
theorem OutRow.far {W W' : World} {base g : Nat} {v : Value} {P : List (Stp × Value)} (h : OutRow W base v P) (hg : W.grownBy W' (some g)) (hb : g < base) : OutRow W' base v P :=
  ⟨own_far h.1 hg hb, fun p hp => own_far (h.2 p hp) hg hb⟩
theorem OutRow.push {W W' : World} {base : Nat} {v v' sv : Value} {P : List (Stp × Value)} {x : Stp} (h : OutRow W base v P) (hs : W.ownsRow base 3 1 sv x.2.2.length (x.2.2.map intV)) (ho : W'.ownsRow base 39 13 v' (P.length + 1) (rowP P ++ (stpA x sv).toList)) (hg : W.grownBy W' v.ownBlock) : OutRow W' base v' (P ++ [(x, sv)]) := by
  refine ⟨?_, fun p hp => ?_⟩
  · have e : rowP (P ++ [(x, sv)]) = rowP P ++ (stpA x sv).toList := by simp [rowP]
    rw [e, List.length_append]
    exact ho
  · rcases List.mem_append.1 hp with hp | hp
    · exact (h.2 p hp).kept hg (own_apart (h.2 p hp) h.1 (by decide))
    · simp only [List.mem_cons, List.not_mem_nil, or_false] at hp
      subst hp
      exact hs.kept hg (own_apart hs h.1 (by decide))
theorem cite_of_own {W : World} {base : Nat} {v : Value} {cs : List Int} (h : W.ownsRow base 3 1 v cs.length (cs.map intV)) : CiteRow W v cs := by
  rcases row_of_own h with ⟨rfl, h0, _⟩ | ⟨b, o, c, rfl, hc, hcells⟩
  · exact ⟨none, 0, by rw [h0], fun h => by omega⟩
  · exact ⟨_, c, rfl, fun _ => ⟨b, o, rfl, hc, hcells⟩⟩
theorem OutRow.row {W : World} {base : Nat} {v : Value} {P : List (Stp × Value)} (h : OutRow W base v P) : StpRow W v (P.map Prod.fst) := by
  obtain ⟨ho, hc⟩ := h
  have hl : (P.map Prod.fst).length = P.length := by simp
  have hr := ho
  rcases row_of_own ho with ⟨rfl, h0, _⟩ | ⟨b, o, c, rfl, hcc, hcells⟩
  · exact ⟨none, 0, by rw [hl, h0], by rw [hl, h0]; omega, fun h => by omega⟩
  · refine ⟨some ⟨b, o, none⟩, c, by rw [hl], by rw [hl]; exact hcc, fun _ => ⟨b, o, rfl, fun k hk => ?_⟩⟩
    have hk' : k < P.length := by rw [← hl]; exact hk
    have at_ : ∀ j, j < 13 → W.cell? ⟨b, o + (k * 13 + j), none⟩ = (stpA P[k].1 P[k].2).toList[j]? := by
      intro j hj
      have hlt : k * 13 + j < (rowP P).length := by rw [rowP_len]; omega
      rw [hcells _ hlt, ← rowP_at P k j hk' hj, List.getElem?_eq_getElem hlt]
    have e : (P.map Prod.fst)[k] = P[k].1 := by simp
    rw [e]
    have hp := hc P[k] (List.getElem_mem hk')
    generalize P[k] = p at *
    obtain ⟨x, sv⟩ := p
    obtain ⟨a, c', hsv, hcs⟩ := cite_of_own hp
    simp only at hsv at_ hp
    have hc2 : CiteRow W sv x.2.2 := cite_of_own hp
    subst hsv
    refine ⟨fun j u hu => ?_, ?_, a, c', ?_, hc2⟩
    · have hj : j < 11 := by
        have := (Array.getElem?_eq_some_iff.1 hu).1
        exact this
      rw [Nat.add_assoc, at_ j (by omega)]
      match j, hj with
      | 0, _ => exact hu
      | 1, _ => exact hu
      | 2, _ => exact hu
      | 3, _ => exact hu
      | 4, _ => exact hu
      | 5, _ => exact hu
      | 6, _ => exact hu
      | 7, _ => exact hu
      | 8, _ => exact hu
      | 9, _ => exact hu
      | 10, _ => exact hu
    · rw [Nat.add_assoc, at_ 11 (by omega)]; rfl
    · rw [Nat.add_assoc, at_ 12 (by omega)]; rfl
end Go.Proofs.YtiadjmfdahendaaDoor
