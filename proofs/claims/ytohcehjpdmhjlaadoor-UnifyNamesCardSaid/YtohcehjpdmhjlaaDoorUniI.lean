/- The closure of Unify that binds: it stores the bindings with one more, where binding may be. -/
import Derived.Test.YtohcehjpdmhjlaaDoorUniAH
namespace Go.Proofs.YtohcehjpdmhjlaaDoor
open Go.RowKit

theorem row_set {W : World} {v x u : Value} {B : Nat} {T : TypeId} {L : List Bnd} (h : RowOf 3 bndC W v L) (hB : Cel W B #[x] T) : RowOf 3 bndC (W.setCell ⟨B, 0, none⟩ u) v L := by
  obtain ⟨a, c, h1, h2, h3, h4⟩ := h
  refine ⟨a, c, h1, h2, h3, fun h0 => ?_⟩
  obtain ⟨b, o, h5, h6⟩ := h4 h0
  refine ⟨b, o, h5, fun k hk j y hy => ?_⟩
  have hb : b ≠ B := by
    rintro rfl
    have := h6 k hk 1 _ rfl
    rw [hB.cell] at this
    simp at this
  rw [World.cell?_setCell_other W _ _ u (fun e => hb (by injection e with e1 _ _; exact e1.symm))]
  exact h6 k hk j y hy
theorem gset1 {w w' : World} {B : Nat} (h : Since w w') (v : Value) : w.grownBy (w'.setCell ⟨B, 0, none⟩ v) (some B) :=
  have g := (World.grownBy.refl w (some B))
  ⟨h.os, h.tape, h.output, by simpa using h.size, fun k hk hne => (Below.heap_setCell w' ⟨B, 0, none⟩ v k (fun e => hne (by rw [e]))).trans (Below.block h k hk)⟩
/-- What the closure leaves: in the box at B, a row of bindings; all else new. -/
def BindPost (B : Nat) (L : List Bnd) (w : World) (e : Ending) (w' : World) : Prop :=
  ∃ v', e = .returned (.bool true) ∧ RowS w' v' L ∧ Cel w' B #[v'] 41 ∧ w.grownBy w' (some B)
set_option maxHeartbeats 2000000 in
set_option maxRecDepth 100000 in
theorem uclos_any (v : Value) (L : List Bnd) (s : List UInt8) (tv : Bool) (tl : List UInt8) (B : Nat) (w : World) (hv : RowS w v L) (hB : Cel w B #[v] 41) (hi : InvB L) (hm : L.length ≤ 1000) (hmay : MayB L s (tv, tl)) :
    Calls Tryd.prog 32 #[.string ⟨s.toArray⟩, .agg #[.bool tv, .string ⟨tl.toArray⟩], .pointer (some ⟨B, 0, none⟩)] w (BindPost B (bindP L s (tv, tl)) w) := by
  have HV := Lib.hid hv
  have HBI := Lib.hid (fun W (h : RowS W v L) => ubind_any v L s tv tl tv tl W h hi hm hmay.2.2.2.1 hmay.1 hmay.2.1 hmay.2.2.1 hmay.2.2.2.2)
  have KB := Lib.hid hB
  have hA : Since w (w.alloc (.cells #[.bool tv, .string ⟨tl.toArray⟩] 23)) := (Since.refl _).alloc _
  have K1 : Hid (Cel (w.alloc (.cells #[.bool tv, .string ⟨tl.toArray⟩] 23)) w.heap.size #[.bool tv, .string ⟨tl.toArray⟩] 23) := heap_alloc_new w _
  have hBl : B < w.heap.size := hB.lt
  clear hv hB hi hmay
  have b0 := (KB.out.next hA).one
  obtain ⟨k0, k1⟩ := K1.out.two
  go_enter Tryd.func32, Tryd.ntmps32
  go_wp2_with fail
  refine (HBI.out _ (HV.out.next hA)).mono ?_
  rintro e w1 ⟨v1, rfl, hv1, hb⟩
  have hS := hA.trans hb
  have KB1 := KB.out.next hS
  have b1 := KB1.one
  have bf := KB1.free
  have bl := KB1.lt
  clear b0 k0 k1 hb
  obtain ⟨a1, c1, rfl⟩ := hv1.1.form
  go_wp2_with fail
  go_ret
  exact ⟨_, rfl, ⟨row_set hv1.1 KB1, hv1.2⟩, KB1.set rfl, gset1 hS _⟩
end Go.Proofs.YtohcehjpdmhjlaaDoor
