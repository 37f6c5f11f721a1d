/- Package table: what stands of a call when a block of another kind, or of another call, grows. -/
import Derived.Test.YtbgdljcgbhhfdaaDoorTabF
namespace Go.Proofs.YtbgdljcgbhhfdaaDoor
open Go.RowKit Go.Maps Go.WideMaps

theorem CallAt.grown {W W' : World} {B : Nat} {p : CallP} {c : TCall} {row : Option Nat} (h : CallAt W B p c) (hg : W.grownBy W' row) (h1 : some p.b ≠ row) (h2 : some p.th ≠ row) (h3 : p.av.ownBlock = none ∨ p.av.ownBlock ≠ row) (h4 : p.wv.ownBlock = none ∨ p.wv.ownBlock ≠ row) : CallAt W' B p c :=
  ⟨h.cel.grown hg h1, h.ans.kept hg h3, h.who.kept hg h4, h.map.far hg h2, h.bb, h.bt, h.fit, h.nd, h.ln⟩
/-- A map's block is no row's. -/
theorem kidx_own_ne {α : Type} {k : TypeId} {kl : α → Lit} {W : World} {b n : Nat} {P : List α} {B : Nat} {e : TypeId} {K m : Nat} {v : Value} {xs : List Value} (h : KIdx k kl W b n P) (hr : W.ownsRow B e K v m xs) : some b ≠ v.ownBlock := by
  intro hh
  obtain ⟨c1, f1, k1⟩ := Lib.ownsRow_kind hr b hh.symm
  obtain ⟨es, clock, hb, _⟩ := h
  rw [hb] at k1
  injection k1 with k1
  cases k1
/-- A map's block is no box's. -/
theorem kidx_cel_ne {α : Type} {k : TypeId} {kl : α → Lit} {W : World} {b n : Nat} {P : List α} {g : Nat} {cs : Array Value} {T : TypeId} (h : KIdx k kl W b n P) (hc : Cel W g cs T) : b ≠ g := by
  rintro rfl
  obtain ⟨es, clock, hb, _⟩ := h
  unfold Cel at hc
  rw [hb] at hc
  injection hc with hc
  cases hc
/-- A box's block is no row's of another kind. -/
theorem cel_own_ne {W : World} {g : Nat} {cs : Array Value} {T : TypeId} {B : Nat} {e : TypeId} {K m : Nat} {v : Value} {xs : List Value} (hc : Cel W g cs T) (hr : W.ownsRow B e K v m xs) (he : e ≠ T) : some g ≠ v.ownBlock := by
  intro hh
  rcases own_cel_ne hr hc he with h0 | h0
  · rw [h0] at hh; cases hh
  · exact h0 hh.symm
/-- Another call's row of ints grows. -/
theorem CallAt.grown_who {W W' : World} {B : Nat} {p q : CallP} {c d : TCall} (h : CallAt W B p c) (hq : CallAt W B q d) (hpq : CallP.apart p q) (hg : W.grownBy W' q.wv.ownBlock) : CallAt W' B p c :=
  h.grown hg (cel_own_ne h.cel hq.who (by decide)) (kidx_own_ne h.map hq.who) (own_kind_apart h.ans hq.who (by decide)) hpq.2.2.2
/-- Another call's row of atoms grows. -/
theorem CallAt.grown_ans {W W' : World} {B : Nat} {p q : CallP} {c d : TCall} (h : CallAt W B p c) (hq : CallAt W B q d) (hpq : CallP.apart p q) (hg : W.grownBy W' q.av.ownBlock) : CallAt W' B p c :=
  h.grown hg (cel_own_ne h.cel hq.ans (by decide)) (kidx_own_ne h.map hq.ans) hpq.2.2.1 (own_kind_apart h.who hq.ans (by decide))
/-- Another call's box is stored to. -/
theorem CallAt.grown_box {W W' : World} {B : Nat} {p q : CallP} {c d : TCall} (h : CallAt W B p c) (hq : CallAt W B q d) (hpq : CallP.apart p q) (hg : W.grownBy W' (some q.b)) : CallAt W' B p c :=
  h.grown hg (fun e => hpq.1 (by injection e)) (fun e => kidx_cel_ne h.map hq.cel (by injection e)) (own_cel_ne h.ans hq.cel (by decide)) (own_cel_ne h.who hq.cel (by decide))
/-- Another call's map grows. -/
theorem CallAt.grown_map {W W' : World} {B : Nat} {p q : CallP} {c d : TCall} (h : CallAt W B p c) (hq : CallAt W B q d) (hpq : CallP.apart p q) (hg : W.grownBy W' (some q.th)) : CallAt W' B p c :=
  h.grown hg (fun e => kidx_cel_ne hq.map h.cel (by injection e with e; exact e.symm)) (fun e => hpq.2.1 (by injection e)) (.inr fun e => kidx_own_ne hq.map h.ans e.symm) (.inr fun e => kidx_own_ne hq.map h.who e.symm)
end Go.Proofs.YtbgdljcgbhhfdaaDoor
