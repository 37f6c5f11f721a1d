/- Sets of atoms: maps with atoms as keys. Sets of texts: maps with texts as keys. -/
import Derived.Test.YtnfjjckbgnieeaaGreatDoorKRow
import Derived.Test.YtnfjjckbgnieeaaGreatDoorOpen
import Derived.Maps.OwnSet
import Derived.DeepKeys4
import Derived.StringKeys
namespace Go.Proofs.YtnfjjckbgnieeaaGreatDoor
open Go.RowKit Go.Maps Go.WideMaps

theorem alaidOut : laidOutB Tryz.prog = true := by kernel_rfl
theorem aklaw : Keyed Tryz.prog 44 := Keyed.of_law (deep_law_laid alaidOut (m := 8) (by decide) (of_decide_eq_true (by kernel_rfl)) (by kernel_rfl) (by kernel_rfl))
theorem zeroU (w : World) : (zeroValue 135).run Tryz.prog w = .ok (.agg #[]) w := by kernel_rfl
def atmLits (a : Atm) : List Lit := [.string a.1, .string a.2.1, .int .i64 a.2.2.1, .bool a.2.2.2.1.1, .string a.2.2.2.1.2, .bool a.2.2.2.2.1.1, .string a.2.2.2.2.1.2, .bool a.2.2.2.2.2.1.1, .string a.2.2.2.2.2.1.2, .bool a.2.2.2.2.2.2.1, .string a.2.2.2.2.2.2.2]
def keyA (a : Atm) : Lit := .string (keyBytes (atmLits a))
theorem kl_str (d : Nat) (l : List UInt8) (h : l.length ≤ maxLen) : Tryz.prog.keyLits (d + 1) 9 [.string ⟨l.toArray⟩] = some [.string l] := by
  have h2 : (ByteArray.mk l.toArray).size ≤ maxLen := h
  simp [Program.keyLits, Tryz.underlying9, h2]
theorem kl_bool (d : Nat) (b : Bool) : Tryz.prog.keyLits (d + 1) 4 [.bool b] = some [.bool b] := by
  simp [Program.keyLits, Tryz.underlying4]
theorem kl_int (d : Nat) (n : Int) (h : (Lit.int .i64 n).wf = true) : Tryz.prog.keyLits (d + 1) 3 [.int .i64 n] = some [.int .i64 n] := by
  simp [Program.keyLits, Tryz.underlying3, h]
theorem kl_term (d : Nat) (b : Bool) (l : List UInt8) (h : l.length ≤ maxLen) : Tryz.prog.keyLits (d + 2) 41 [.bool b, .string ⟨l.toArray⟩] = some [.bool b, .string l] := by
  have e1 := kl_bool d b
  have e2 := kl_str d l h
  unfold Program.keyLits
  rw [Tryz.underlying41]
  simp [cells_term, cells_bool, cells_string, e1, e2]
theorem kl_terms (d : Nat) (v0 v1 v2 v3 : Bool) (l0 l1 l2 l3 : List UInt8) (h0 : l0.length ≤ maxLen) (h1 : l1.length ≤ maxLen) (h2 : l2.length ≤ maxLen) (h3 : l3.length ≤ maxLen) :
    Tryz.prog.keyLits (d + 3) 42 [.bool v0, .string ⟨l0.toArray⟩, .bool v1, .string ⟨l1.toArray⟩, .bool v2, .string ⟨l2.toArray⟩, .bool v3, .string ⟨l3.toArray⟩] = some [.bool v0, .string l0, .bool v1, .string l1, .bool v2, .string l2, .bool v3, .string l3] := by
  have e0 := kl_term d v0 l0 h0
  have e1 := kl_term d v1 l1 h1
  have e2 := kl_term d v2 l2 h2
  have e3 := kl_term d v3 l3 h3
  unfold Program.keyLits
  rw [Tryz.underlying42]
  simp [cells_term, cells_terms, List.range, List.range.loop, e0, e1, e2, e3]
theorem kl_atom (d : Nat) (a_s a_p : List UInt8) (a_n : Int) (a_v0 a_v1 a_v2 a_v3 : Bool) (a_l0 a_l1 a_l2 a_l3 : List UInt8) (hF : FitsN ((a_s, a_p, a_n, (a_v0, a_l0), (a_v1, a_l1), (a_v2, a_l2), (a_v3, a_l3)) : Atm)) : Tryz.prog.keyLits (d + 4) 44 [.string ⟨a_s.toArray⟩, .string ⟨a_p.toArray⟩, .int .i64 a_n, .bool a_v0, .string ⟨a_l0.toArray⟩, .bool a_v1, .string ⟨a_l1.toArray⟩, .bool a_v2, .string ⟨a_l2.toArray⟩, .bool a_v3, .string ⟨a_l3.toArray⟩] = some (atmLits ((a_s, a_p, a_n, (a_v0, a_l0), (a_v1, a_l1), (a_v2, a_l2), (a_v3, a_l3)) : Atm)) := by
  obtain ⟨⟨h1, h2, h3⟩, h4, h5⟩ := hF
  have g0 := h3 (a_v0, a_l0) (by simp [argsL])
  have g1 := h3 (a_v1, a_l1) (by simp [argsL])
  have g2 := h3 (a_v2, a_l2) (by simp [argsL])
  have g3 := h3 (a_v3, a_l3) (by simp [argsL])
  have e0 := kl_str (d + 2) a_s h1
  have e1 := kl_str (d + 2) a_p h2
  have e2 := kl_int (d + 2) a_n (by
    have k1 : IntKind.i64.min = -9223372036854775808 := by decide
    have k2 : IntKind.i64.max = 9223372036854775807 := by decide
    simp only at h4 h5
    simp only [Lit.wf, k1, k2, Bool.and_eq_true, decide_eq_true_eq]
    exact ⟨h4, h5⟩)
  have e3 := kl_terms d a_v0 a_v1 a_v2 a_v3 a_l0 a_l1 a_l2 a_l3 g0 g1 g2 g3
  unfold Program.keyLits
  rw [Tryz.underlying44]
  simp [cells_atom, cells_string, cells_int, cells_terms, e0, e1, e2, e3, atmLits]
theorem keyOf_atom (a_s a_p : List UInt8) (a_n : Int) (a_v0 a_v1 a_v2 a_v3 : Bool) (a_l0 a_l1 a_l2 a_l3 : List UInt8) (hF : FitsN ((a_s, a_p, a_n, (a_v0, a_l0), (a_v1, a_l1), (a_v2, a_l2), (a_v3, a_l3)) : Atm)) : keyOf Tryz.prog 44 (.agg #[.string ⟨a_s.toArray⟩, .string ⟨a_p.toArray⟩, .int .i64 a_n, .bool a_v0, .string ⟨a_l0.toArray⟩, .bool a_v1, .string ⟨a_l1.toArray⟩, .bool a_v2, .string ⟨a_l2.toArray⟩, .bool a_v3, .string ⟨a_l3.toArray⟩]) = some (keyA ((a_s, a_p, a_n, (a_v0, a_l0), (a_v1, a_l1), (a_v2, a_l2), (a_v3, a_l3)) : Atm)) := by
  have e := kl_atom (Tryz.prog.types.size - 3) a_s a_p a_n a_v0 a_v1 a_v2 a_v3 a_l0 a_l1 a_l2 a_l3 hF
  rw [show Tryz.prog.types.size - 3 + 4 = Tryz.prog.types.size + 1 by have : 3 ≤ Tryz.prog.types.size := of_decide_eq_true (by kernel_rfl); omega] at e
  unfold keyOf
  rw [Tryz.underlying44]
  simp only
  rw [if_pos (by kernel_rfl)]
  have hc : (Value.agg #[.string ⟨a_s.toArray⟩, .string ⟨a_p.toArray⟩, .int .i64 a_n, .bool a_v0, .string ⟨a_l0.toArray⟩, .bool a_v1, .string ⟨a_l1.toArray⟩, .bool a_v2, .string ⟨a_l2.toArray⟩, .bool a_v3, .string ⟨a_l3.toArray⟩]).cells.toList = [.string ⟨a_s.toArray⟩, .string ⟨a_p.toArray⟩, .int .i64 a_n, .bool a_v0, .string ⟨a_l0.toArray⟩, .bool a_v1, .string ⟨a_l1.toArray⟩, .bool a_v2, .string ⟨a_l2.toArray⟩, .bool a_v3, .string ⟨a_l3.toArray⟩] := rfl
  rw [hc, e]
  rfl
theorem keyA_inj {a b : Atm} (ha : FitsN a) (hb : FitsN b) (h : keyA a = keyA b) : a = b := by
  obtain ⟨a_s, a_p, a_n, ⟨a_v0, a_l0⟩, ⟨a_v1, a_l1⟩, ⟨a_v2, a_l2⟩, ⟨a_v3, a_l3⟩⟩ := a
  obtain ⟨b_s, b_p, b_n, ⟨b_v0, b_l0⟩, ⟨b_v1, b_l1⟩, ⟨b_v2, b_l2⟩, ⟨b_v3, b_l3⟩⟩ := b
  have h1 := keyOf_atom a_s a_p a_n a_v0 a_v1 a_v2 a_v3 a_l0 a_l1 a_l2 a_l3 ha
  have h2 := keyOf_atom b_s b_p b_n b_v0 b_v1 b_v2 b_v3 b_l0 b_l1 b_l2 b_l3 hb
  rw [h] at h1
  have := aklaw.inj h1 h2
  simp only [Value.agg.injEq, Array.mk.injEq, List.cons.injEq, Value.string.injEq, ByteArray.mk.injEq, Value.int.injEq, Value.bool.injEq, and_true, true_and] at this
  obtain ⟨rfl, rfl, rfl, rfl, rfl, rfl, rfl, rfl, rfl, rfl, rfl⟩ := this
  rfl
/-- Block b is a set of atoms. -/
def ASet (W : World) (b n : Nat) (L : List Atm) : Prop := W.ownsMap Tryz.prog 44 (unitElem (H := Unit)) b n (setOf (.agg []) (L.map keyA))
theorem ASet.next {W W' : World} {b n : Nat} {L : List Atm} (h : ASet W b n L) (hs : Since W W') : ASet W' b n L := by
  have hlt := World.ownsMap.lt h
  obtain ⟨es, clock, hb, r⟩ := h
  exact ⟨es, clock, (hs.block b hlt).trans hb, r⟩
theorem ASet.lt {W : World} {b n : Nat} {L : List Atm} (h : ASet W b n L) : b < W.heap.size := World.ownsMap.lt h
theorem ASet.far {W W' : World} {b n : Nat} {L : List Atm} {row : Option Nat} (h : ASet W b n L) (hg : W.grownBy W' row) (hr : some b ≠ row) : ASet W' b n L := by
  have hlt := World.ownsMap.lt h
  obtain ⟨es, clock, hb, r⟩ := h
  exact ⟨es, clock, (hg.block b hlt hr).trans hb, r⟩
theorem has_aset (L : List Atm) (x : Atm) (hL : ∀ y ∈ L, FitsN y) (hx : FitsN x) : Maps.has (setOf (.agg [] : DataW Unit) (L.map keyA)) (keyA x) = decide (x ∈ L) := by
  rw [has_setOf _ _ _ (fun y hy => by obtain ⟨_, _, rfl⟩ := List.mem_map.1 hy; trivial), List.any_map, Bool.eq_iff_iff, List.any_eq_true, decide_eq_true_eq]
  constructor
  · rintro ⟨y, hy, he⟩
    have he2 : (keyBytes (atmLits y) == keyBytes (atmLits x)) = true := he
    have he' : keyA y = keyA x := by unfold keyA; rw [beq_iff_eq.1 he2]
    rw [← keyA_inj (hL y hy) hx he']
    exact hy
  · intro h
    refine ⟨x, h, ?_⟩
    show (keyBytes (atmLits x) == keyBytes (atmLits x)) = true
    exact beq_self_eq_true _
theorem aset_made (w : World) : ASet (w.alloc (.map #[] 0)) w.heap.size 0 [] := World.ownsMap_made _ _ _ _
end Go.Proofs.YtnfjjckbgnieeaaGreatDoor

namespace Go.Proofs.YtnfjjckbgnieeaaGreatDoor
open Go.RowKit Go.Maps Go.WideMaps

theorem klaw : Keyed Tryz.prog 9 := string_keyed Tryz.underlying9
/-- Block b is a set of texts. -/
def SetAt (W : World) (b n : Nat) (L : List Txt) : Prop := W.ownsMap Tryz.prog 9 (unitElem (H := Unit)) b n (setOf (.agg []) (L.map Lit.string))
theorem SetAt.next {W W' : World} {b n : Nat} {L : List Txt} (h : SetAt W b n L) (hs : Since W W') : SetAt W' b n L := by
  have hlt := World.ownsMap.lt h
  obtain ⟨es, clock, hb, r⟩ := h
  exact ⟨es, clock, (hs.block b hlt).trans hb, r⟩
theorem has_set (L : List Txt) (x : Txt) : Maps.has (setOf (.agg [] : DataW Unit) (L.map Lit.string)) (.string x) = L.contains x := by
  rw [has_setOf _ _ _ (fun y hy => by obtain ⟨_, _, rfl⟩ := List.mem_map.1 hy; trivial), List.any_map]
  induction L with
  | nil => rfl
  | cons a r ih =>
    rw [List.any_cons, List.contains_cons, ih]
    congr 1
    show (a == x) = (x == a)
    rw [Bool.eq_iff_iff, beq_iff_eq, beq_iff_eq]
    exact eq_comm
theorem set_made (w : World) : SetAt (w.alloc (.map #[] 0)) w.heap.size 0 [] := World.ownsMap_made _ _ _ _
theorem lookup_set (w : World) {ops : Array Oper} {rest : List Oper} {o : Oper} {a : Act} {Q : Exit → Act → World → Prop}
    (hg : o.guard = none) (m x : Operand) (hop : o.op = Op.lookup 81 m x true) (b n : Nat) (L : List Txt) (hm : a.eval m = .map (some b)) (hown : SetAt w b n L) (s : Txt) (hs : s.length ≤ maxLen)
    (hx : a.eval x = .string ⟨s.toArray⟩) (t : Bool) (ht : L.contains s = t) (hK : wpList Tryz.prog ops Q rest (a.put o.dst (.tuple #[.agg #[], .bool t])) w) : wpList Tryz.prog ops Q (o :: rest) a w := by
  refine wpList_lookup_own_unit w hg m x _ hop 9 135 klaw Tryz.underlying81 (zeroU w) b n _ hm hown _ (.string s) hx (keyOf_string_mk Tryz.underlying9 (s := ⟨s.toArray⟩) hs) ?_
  rw [has_set, ht]
  exact hK
theorem update_set (w : World) {ops : Array Oper} {rest : List Oper} {o : Oper} {a : Act} {Q : Exit → Act → World → Prop}
    (hg : o.guard = none) (m x v : Operand) (hop : o.op = Op.mapUpdate 81 m x v) (b n : Nat) (L : List Txt) (hm : a.eval m = .map (some b)) (hown : SetAt w b n L) (hn : n < maxLen) (s : Txt) (hs : s.length ≤ maxLen)
    (hx : a.eval x = .string ⟨s.toArray⟩) (hv : a.eval v = .agg #[]) (hK : ∀ w', SetAt w' b (n + 1) (L ++ [s]) → w.grownBy w' (some b) → wpList Tryz.prog ops Q rest (a.put o.dst undef) w') : wpList Tryz.prog ops Q (o :: rest) a w := by
  refine wpList_mapUpdate_own w hg m x v _ hop 9 135 klaw Tryz.underlying81 (unitElem (H := Unit)) b n _ hm hown hn _ _ (.string s) hx hv (keyOf_string_mk Tryz.underlying9 (s := ⟨s.toArray⟩) hs) (.agg []) [] unitElem_mk ?_
  intro w' h1 h2
  refine hK w' ?_ h2
  unfold SetAt
  rw [List.map_append]
  exact setOf_snoc _ _ _ ▸ h1
theorem since_update {w0 w w' : World} {b : Nat} (h : Since w0 w) (hg : w.grownBy w' (some b)) (hb : w0.heap.size ≤ b) : Since w0 w' :=
  Below.grown h hg h.size (fun j hj => by cases hj; exact hb)

end Go.Proofs.YtnfjjckbgnieeaaGreatDoor
