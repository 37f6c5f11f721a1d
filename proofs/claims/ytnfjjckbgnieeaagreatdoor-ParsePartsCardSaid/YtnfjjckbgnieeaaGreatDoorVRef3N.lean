/- The reference of layer 3: names, Vars, Consts, Said, Text: what they answer at every atom. -/
import Derived.Test.YtnfjjckbgnieeaaGreatDoorVTermP
import Derived.Test.YtnfjjckbgnieeaaGreatDoorVEq
import Derived.Deep.RegionHeld3
namespace Go.Proofs.YtnfjjckbgnieeaaGreatDoor
open Go.RowKit
attribute [local go_sem ↓] run_termEq'

theorem own_since {w w' : World} {base : Nat} {e : TypeId} {size : Nat} {v : Value} {n : Nat} {xs : List Value} (h : w.ownsRow base e size v n xs) (hs : Since w w') : w'.ownsRow base e size v n xs := by
  obtain ⟨hl, h | ⟨g, cap, cur, hv, hgb, hg, r⟩⟩ := h
  · exact ⟨hl, .inl h⟩
  · exact ⟨hl, .inr ⟨g, cap, cur, hv, hgb, (Below.block hs g ((Array.getElem?_eq_some_iff.1 hg).1)).trans hg, r⟩⟩
/-- Two texts joined. -/
theorem run_cat {a b c : ByteArray} (h : a ++ b = c) (hl : a.size + b.size ≤ 1000000) (W : World) : (Op.stringOp .add a b).run Tryz.prog W = .ok (.string c) W := by
  subst h
  exact run_string_add W a b (by omega) (by omega)
end Go.Proofs.YtnfjjckbgnieeaaGreatDoor
