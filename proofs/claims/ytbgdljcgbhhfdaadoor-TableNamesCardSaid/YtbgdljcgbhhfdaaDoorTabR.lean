/- Package table: a call's answers grown; canonical forms of valid atoms are valid. -/
import Derived.Test.YtbgdljcgbhhfdaaDoorTabK
namespace Go.Proofs.YtbgdljcgbhhfdaaDoor
open Go.RowKit Go.Maps Go.WideMaps

def addC (c : TCall) (a : Atm) : TCall := (c.1, c.2.1 ++ [a], c.2.2)
theorem sum_set1 : ∀ (l : List Nat) (i : Nat) (h : i < l.length) (n : Nat), n = l[i] + 1 → (l.set i n).sum = l.sum + 1
  | x :: r, 0, _, n, e => by
    rw [List.set_cons_zero, List.sum_cons, List.sum_cons, e]
    show x + 1 + r.sum = _
    omega
  | x :: r, k + 1, h, n, e => by
    rw [List.set_cons_succ, List.sum_cons, List.sum_cons, sum_set1 r k (by simpa using h) n e]
    omega
theorem cntS_add {S : List TCall} {i : Nat} (h : i < S.length) (a : Atm) : cntS (S.set i (addC S[i] a)) = cntS S + 1 := by
  unfold cntS
  rw [List.map_set]
  refine sum_set1 _ i (by rw [List.length_map]; exact h) _ ?_
  rw [List.getElem_map]
  show ((S[i]).2.1 ++ [a]).length = _
  rw [List.length_append]; rfl
theorem TabAt.added {W W8 Wm Wa W3 : World} {B g mp np : Nat} {cv : Value} {R : List CallP} {S : List TCall} (h : TabAt W B g mp np cv R S) {i : Nat} (hi : i < R.length) (hi2 : i < S.length) {v' : Value} (a : Atm)
    (hs : Since W W8) (g1 : W8.grownBy Wm (some R[i].th)) (hM : AIdx Wm R[i].th (R[i].nt + 1) ((S[i]).2.1 ++ [a])) (hs2 : Since Wm Wa) (hg : Wa.grownBy W3 R[i].av.ownBlock)
    (hown : W3.ownsRow B 34 11 v' ((S[i]).2.1.length + 1) ((S[i]).2.1.flatMap atmL ++ (atmC a).toList)) (hat : v'.ownBlock = R[i].av.ownBlock ∨ v'.ownBlock = some Wa.heap.size) (hl : (S[i]).2.1.length < 100000) (hx : posF (S[i]).2.1 a 0 = none) (hf : FitsN a) :
    ∃ R', TabAt ((W3.setCell ⟨R[i].b, 11, none⟩ v').setCell ⟨g, 2, none⟩ (.int .i64 ((cntS S : Int) + 1))) B g mp np cv R' (S.set i (addC S[i] a)) ∧ (∀ b, TabB g mp cv R' b → TabB g mp cv R b ∨ W.heap.size ≤ b) ∧ Keep (TabB g mp cv R) W ((W3.setCell ⟨R[i].b, 11, none⟩ v').setCell ⟨g, 2, none⟩ (.int .i64 ((cntS S : Int) + 1))) := by
  have hc := h.call i hi hi2
  have hmem : R[i] ∈ R := List.getElem_mem hi
  have hH := h.head_apart hi hi2
  have gb : W3.grownBy (W3.setCell ⟨R[i].b, 11, none⟩ v') (some R[i].b) := grown_setCell W3 R[i].b 11 v'
  have gg : (W3.setCell ⟨R[i].b, 11, none⟩ v').grownBy ((W3.setCell ⟨R[i].b, 11, none⟩ v').setCell ⟨g, 2, none⟩ (.int .i64 ((cntS S : Int) + 1))) (some g) := grown_setCell _ g 2 _
  have hk : Keep (fun b => CallB R[i] b ∨ b = g) W ((W3.setCell ⟨R[i].b, 11, none⟩ v').setCell ⟨g, 2, none⟩ (.int .i64 ((cntS S : Int) + 1))) := by
    refine Keep.trans (Keep.trans (Keep.trans (Keep.trans (Keep.trans (Keep.of_since hs) (Keep.of_grown (Z := fun b => CallB R[i] b ∨ b = g) g1 ?_) (fun _ hz => .inl hz)) (Keep.of_since (Z := fun b => CallB R[i] b ∨ b = g) hs2) (fun _ hz => .inl hz)) (Keep.of_grown (Z := fun b => CallB R[i] b ∨ b = g) hg ?_) (fun _ hz => .inl hz)) (Keep.of_grown (Z := fun b => CallB R[i] b ∨ b = g) gb ?_) (fun _ hz => .inl hz)) (Keep.of_grown (Z := fun b => CallB R[i] b ∨ b = g) gg ?_) (fun _ hz => .inl hz)
    · intro b hb; injection hb with hb; exact .inl (.inr (.inl hb.symm))
    · intro b hb; exact .inl (.inr (.inr (.inl hb)))
    · intro b hb; injection hb with hb; exact .inl (.inl hb.symm)
    · intro b hb; injection hb with hb; exact .inr hb.symm
  have hbth : some R[i].b ≠ some R[i].th := fun e => kidx_cel_ne hc.map hc.cel (by injection e with e; exact e.symm)
  have hbav : some R[i].b ≠ R[i].av.ownBlock := cel_own_ne hc.cel hc.ans (by decide)
  have hthav : some R[i].th ≠ R[i].av.ownBlock := kidx_own_ne hc.map hc.ans
  have hbg : R[i].b ≠ g := (hH _ (.inl rfl)).1
  have hthg : R[i].th ≠ g := (hH _ (.inr (.inl rfl))).1
  have hcel3 : Cel W3 R[i].b (callC S[i] R[i].av R[i].th R[i].wv) 68 := (((hc.cel.next hs).grown g1 hbth).next hs2).grown hg hbav
  have hcel4 : Cel (W3.setCell ⟨R[i].b, 11, none⟩ v') R[i].b (callC (addC S[i] a) v' R[i].th R[i].wv) 68 := hcel3.set rfl
  have hcel5 := hcel4.grown gg (fun e => hbg (by injection e))
  have hgm : g ≠ R[i].th := fun e => hthg e.symm
  have hgav : some g ≠ R[i].av.ownBlock := cel_own_ne h.cel hc.ans (by decide)
  have hgc3 : Cel W3 g #[.map (some mp), cv, .int .i64 (cntS S : Int)] 64 := (((h.cel.next hs).grown g1 (fun e => hgm (by injection e))).next hs2).grown hg hgav
  have hgc4 := hgc3.grown gb (fun e => hbg (by injection e with e; exact e.symm))
  have hgc5 : Cel ((W3.setCell ⟨R[i].b, 11, none⟩ v').setCell ⟨g, 2, none⟩ (.int .i64 ((cntS S : Int) + 1))) g #[.map (some mp), cv, .int .i64 (cntS (S.set i (addC S[i] a)) : Int)] 64 := by
    have e : ((cntS (S.set i (addC S[i] a)) : Nat) : Int) = (cntS S : Int) + 1 := by rw [cntS_add hi2]; rfl
    rw [e]
    exact hgc4.set rfl
  have hrow : ((W3.setCell ⟨R[i].b, 11, none⟩ v').setCell ⟨g, 2, none⟩ (.int .i64 ((cntS S : Int) + 1))).ownsRow B 34 11 v' (addC S[i] a).2.1.length ((addC S[i] a).2.1.flatMap atmL) := by
    have h1 := own_setCell (u := .int .i64 ((cntS S : Int) + 1)) (j := 2) (own_setCell (u := v') (j := 11) hown hcel3 (by decide)) hgc4 (by decide)
    show World.ownsRow _ B 34 11 v' ((S[i]).2.1 ++ [a]).length (((S[i]).2.1 ++ [a]).flatMap atmL)
    rw [List.length_append, List.flatMap_append]
    simpa [atmL] using h1
  have hmap5 : AIdx ((W3.setCell ⟨R[i].b, 11, none⟩ v').setCell ⟨g, 2, none⟩ (.int .i64 ((cntS S : Int) + 1))) R[i].th (R[i].nt + 1) ((S[i]).2.1 ++ [a]) :=
    (((hM.next hs2).far hg hthav).far gb (fun e => hbth e.symm)).far gg (fun e => hthg (by injection e))
  have hk2 : ((W3.setCell ⟨R[i].b, 11, none⟩ v').setCell ⟨g, 2, none⟩ (.int .i64 ((cntS S : Int) + 1))).ownsRow B 3 1 R[i].wv (S[i]).2.2.length ((S[i]).2.2.flatMap intV1) := by
    have w1 := (own_since hc.who hs).kept g1 (.inr fun e => kidx_own_ne hc.map hc.who e.symm)
    have w2 := (own_since w1 hs2).kept hg (own_kind_apart hc.who hc.ans (by decide))
    exact own_setCell (own_setCell w2 hcel3 (by decide)) hgc4 (by decide)
  have hself : CallAt ((W3.setCell ⟨R[i].b, 11, none⟩ v').setCell ⟨g, 2, none⟩ (.int .i64 ((cntS S : Int) + 1))) B { R[i] with av := v', nt := R[i].nt + 1 } (addC S[i] a) := by
    refine ⟨hcel5, hrow, hk2, hmap5, hc.bb, hc.bt, ⟨hc.fit.1, fun x hx2 => ?_⟩, ?_, ?_⟩
    · rcases List.mem_append.1 hx2 with h1 | h1
      · exact hc.fit.2 x h1
      · have e : x = a := by simpa using h1
        rw [e]; exact hf
    · show ((S[i]).2.1 ++ [a]).Nodup
      rw [List.nodup_append]
      refine ⟨hc.nd, by simp, fun x hx2 y hy => ?_⟩
      obtain rfl := List.mem_singleton.1 hy
      exact fun e => posF_none.1 hx (e ▸ hx2)
    · have := hc.ln
      show R[i].nt + 1 ≤ ((S[i]).2.1 ++ [a]).length ∧ ((S[i]).2.1 ++ [a]).length ≤ 100000 ∧ _
      rw [List.length_append, List.length_singleton]
      exact ⟨by omega, by omega, this.2.2⟩
  have hch := h.change hi hi2 (q := { R[i] with av := v', nt := R[i].nt + 1 }) (c := addC S[i] a) (fun b hb hn hng => hk.block b hb (fun hz => hz.elim hn hng)) rfl rfl rfl (hat.imp id (fun e b hb => by
    have : b = Wa.heap.size := by rw [show ({ R[i] with av := v', nt := R[i].nt + 1 } : CallP).av = v' from rfl, e] at hb; injection hb with hb; exact hb.symm
    rw [this]; exact Nat.le_trans hs.size (Nat.le_trans g1.size hs2.size))) (.inl rfl) hgc5 hself
  exact ⟨_, hch.1, hch.2, hk.mono fun b hb => hb.elim (fun e => .inr (.inr (.inr ⟨_, hmem, e⟩))) (fun e => .inl e)⟩
end Go.Proofs.YtbgdljcgbhhfdaaDoor
