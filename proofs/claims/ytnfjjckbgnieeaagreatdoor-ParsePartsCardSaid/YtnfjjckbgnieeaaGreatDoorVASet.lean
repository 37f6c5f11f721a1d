/- Sets of atoms: maps with atoms as keys. Sets of texts: maps with texts as keys. -/
import Derived.Test.YtnfjjckbgnieeaaGreatDoorVKRow
import Derived.Test.YtnfjjckbgnieeaaGreatDoorVOpen
import Derived.Maps.OwnSet
import Derived.DeepKeys4
import Derived.StringKeys
namespace Go.Proofs.YtnfjjckbgnieeaaGreatDoor
open Go.RowKit Go.Maps Go.WideMaps

theorem zeroU (w : World) : (zeroValue 135).run Tryz.prog w = .ok (.agg #[]) w := by kernel_rfl
def atmLits (a : Atm) : List Lit := [.string a.1, .string a.2.1, .int .i64 a.2.2.1, .bool a.2.2.2.1.1, .string a.2.2.2.1.2, .bool a.2.2.2.2.1.1, .string a.2.2.2.2.1.2, .bool a.2.2.2.2.2.1.1, .string a.2.2.2.2.2.1.2, .bool a.2.2.2.2.2.2.1, .string a.2.2.2.2.2.2.2]
def keyA (a : Atm) : Lit := .string (keyBytes (atmLits a))
/-- Block b is a set of atoms. -/
def ASet (W : World) (b n : Nat) (L : List Atm) : Prop := W.ownsMap Tryz.prog 44 (unitElem (H := Unit)) b n (setOf (.agg []) (L.map keyA))
theorem ASet.next {W W' : World} {b n : Nat} {L : List Atm} (h : ASet W b n L) (hs : Since W W') : ASet W' b n L := by
  have hlt := World.ownsMap.lt h
  obtain ⟨es, clock, hb, r⟩ := h
  exact ⟨es, clock, (hs.block b hlt).trans hb, r⟩
theorem ASet.lt {W : World} {b n : Nat} {L : List Atm} (h : ASet W b n L) : b < W.heap.size := World.ownsMap.lt h
theorem ASet.far {W W' : World} {b n : Nat} {L : List Atm} {row : Option Nat} (h : ASet W b n L) (hg : W.grownBy W' row) (hr : some b ≠ row) : ASet W' b n L := by
  have hlt := World.ownsMap.lt h
  obtain ⟨es, clock, hb, r⟩ := h
  exact ⟨es, clock, (hg.block b hlt hr).trans hb, r⟩
end Go.Proofs.YtnfjjckbgnieeaaGreatDoor

namespace Go.Proofs.YtnfjjckbgnieeaaGreatDoor
open Go.RowKit Go.Maps Go.WideMaps

theorem klaw : Keyed Tryz.prog 9 := string_keyed Tryz.underlying9
/-- Block b is a set of texts. -/
def SetAt (W : World) (b n : Nat) (L : List Txt) : Prop := W.ownsMap Tryz.prog 9 (unitElem (H := Unit)) b n (setOf (.agg []) (L.map Lit.string))
theorem SetAt.next {W W' : World} {b n : Nat} {L : List Txt} (h : SetAt W b n L) (hs : Since W W') : SetAt W' b n L := by
  have hlt := World.ownsMap.lt h
  obtain ⟨es, clock, hb, r⟩ := h
  exact ⟨es, clock, (hs.block b hlt).trans hb, r⟩
theorem has_set (L : List Txt) (x : Txt) : Maps.has (setOf (.agg [] : DataW Unit) (L.map Lit.string)) (.string x) = L.contains x := by
  rw [has_setOf _ _ _ (fun y hy => by obtain ⟨_, _, rfl⟩ := List.mem_map.1 hy; trivial), List.any_map]
  induction L with
  | nil => rfl
  | cons a r ih =>
    rw [List.any_cons, List.contains_cons, ih]
    congr 1
    show (a == x) = (x == a)
    rw [Bool.eq_iff_iff, beq_iff_eq, beq_iff_eq]
    exact eq_comm
theorem set_made (w : World) : SetAt (w.alloc (.map #[] 0)) w.heap.size 0 [] := World.ownsMap_made _ _ _ _
theorem lookup_set (w : World) {ops : Array Oper} {rest : List Oper} {o : Oper} {a : Act} {Q : Exit → Act → World → Prop}
    (hg : o.guard = none) (m x : Operand) (hop : o.op = Op.lookup 81 m x true) (b n : Nat) (L : List Txt) (hm : a.eval m = .map (some b)) (hown : SetAt w b n L) (s : Txt) (hs : s.length ≤ maxLen)
    (hx : a.eval x = .string ⟨s.toArray⟩) (t : Bool) (ht : L.contains s = t) (hK : wpList Tryz.prog ops Q rest (a.put o.dst (.tuple #[.agg #[], .bool t])) w) : wpList Tryz.prog ops Q (o :: rest) a w := by
  refine wpList_lookup_own_unit w hg m x _ hop 9 135 klaw Tryz.underlying81 (zeroU w) b n _ hm hown _ (.string s) hx (keyOf_string_mk Tryz.underlying9 (s := ⟨s.toArray⟩) hs) ?_
  rw [has_set, ht]
  exact hK
theorem update_set (w : World) {ops : Array Oper} {rest : List Oper} {o : Oper} {a : Act} {Q : Exit → Act → World → Prop}
    (hg : o.guard = none) (m x v : Operand) (hop : o.op = Op.mapUpdate 81 m x v) (b n : Nat) (L : List Txt) (hm : a.eval m = .map (some b)) (hown : SetAt w b n L) (hn : n < maxLen) (s : Txt) (hs : s.length ≤ maxLen)
    (hx : a.eval x = .string ⟨s.toArray⟩) (hv : a.eval v = .agg #[]) (hK : ∀ w', SetAt w' b (n + 1) (L ++ [s]) → w.grownBy w' (some b) → wpList Tryz.prog ops Q rest (a.put o.dst undef) w') : wpList Tryz.prog ops Q (o :: rest) a w := by
  refine wpList_mapUpdate_own w hg m x v _ hop 9 135 klaw Tryz.underlying81 (unitElem (H := Unit)) b n _ hm hown hn _ _ (.string s) hx hv (keyOf_string_mk Tryz.underlying9 (s := ⟨s.toArray⟩) hs) (.agg []) [] unitElem_mk ?_
  intro w' h1 h2
  refine hK w' ?_ h2
  unfold SetAt
  rw [List.map_append]
  exact setOf_snoc _ _ _ ▸ h1
end Go.Proofs.YtnfjjckbgnieeaaGreatDoor
