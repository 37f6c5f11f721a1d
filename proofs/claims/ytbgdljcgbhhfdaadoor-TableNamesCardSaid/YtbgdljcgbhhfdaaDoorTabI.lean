/- Package table: Wait. -/
import Derived.Test.YtbgdljcgbhhfdaaDoorTbA
namespace Go.Proofs.YtbgdljcgbhhfdaaDoor
open Go.RowKit Go.Maps Go.WideMaps

def waitC (c : TCall) (x : Int) : TCall := if (posF c.2.2 x 0).isSome then c else (c.1, c.2.1, c.2.2 ++ [x])
theorem Keep.of_two {Z : Nat → Prop} {a b c d : World} {r1 r2 : Option Nat} (h : Since a b) (g1 : b.grownBy c r1) (g2 : c.grownBy d r2) (h1 : ∀ x, r1 = some x → Z x) (h2 : ∀ x, r2 = some x → Z x) : Keep Z a d :=
  ((Keep.of_since h).trans (Keep.of_grown (Z := Z) g1 h1) (fun _ hz => .inl hz)).trans (Keep.of_grown (Z := Z) g2 h2) (fun _ hz => .inl hz)
theorem TabAt.waited {W Wa W3 : World} {B g mp np : Nat} {cv : Value} {R : List CallP} {S : List TCall} (h : TabAt W B g mp np cv R S) {i : Nat} (hi : i < R.length) (hi2 : i < S.length) {v' : Value} (x : Int)
    (hs : Since W Wa) (hg : Wa.grownBy W3 R[i].wv.ownBlock) (hown : W3.ownsRow B 3 1 v' ((S[i]).2.2.length + 1) ((S[i]).2.2.flatMap intV1 ++ [.int .i64 x])) (hat : v'.ownBlock = R[i].wv.ownBlock ∨ v'.ownBlock = some Wa.heap.size) (hl : (S[i]).2.2.length < 100000) (hx : posF (S[i]).2.2 x 0 = none) :
    ∃ R', TabAt (W3.setCell ⟨R[i].b, 13, none⟩ v') B g mp np cv R' (S.set i (waitC S[i] x)) ∧ (∀ b, TabB g mp cv R' b → TabB g mp cv R b ∨ W.heap.size ≤ b) ∧ Keep (TabB g mp cv R) W (W3.setCell ⟨R[i].b, 13, none⟩ v') := by
  have hc := h.call i hi hi2
  have hcA := hc.next hs
  have hmem : R[i] ∈ R := List.getElem_mem hi
  have hg2 : W3.grownBy (W3.setCell ⟨R[i].b, 13, none⟩ v') (some R[i].b) := grown_setCell W3 R[i].b 13 v'
  have hk : Keep (fun b => b = R[i].b ∨ R[i].wv.ownBlock = some b) W (W3.setCell ⟨R[i].b, 13, none⟩ v') := Keep.of_two hs hg hg2 (fun b hb => .inr hb) (fun b hb => .inl (by injection hb with hb; exact hb.symm))
  have hwC : waitC S[i] x = ((S[i]).1, (S[i]).2.1, (S[i]).2.2 ++ [x]) := by unfold waitC; rw [hx]; rfl
  have hcel3 : Cel W3 R[i].b (callC S[i] R[i].av R[i].th R[i].wv) 68 := cel_own hcA.cel hcA.who (by decide) hg
  have hcel4 : Cel (W3.setCell ⟨R[i].b, 13, none⟩ v') R[i].b (callC (waitC S[i] x) R[i].av R[i].th v') 68 := hcel3.set (by rw [hwC]; rfl)
  have hrow : (W3.setCell ⟨R[i].b, 13, none⟩ v').ownsRow B 3 1 v' (waitC S[i] x).2.2.length ((waitC S[i] x).2.2.flatMap intV1) := by
    rw [hwC]
    have h1 := own_setCell (u := v') (j := 13) hown hcel3 (by decide)
    simpa [List.flatMap_append, intV1] using h1
  have hself : CallAt (W3.setCell ⟨R[i].b, 13, none⟩ v') B { R[i] with wv := v' } (waitC S[i] x) := by
    refine ⟨hcel4, ?_, hrow, ?_, hc.bb, hc.bt, ?_, ?_, ?_⟩
    · rw [hwC]
      exact hk.own hc.ans (fun b hb hz => hz.elim (fun e => cel_own_ne hc.cel hc.ans (by decide) (by rw [hb, e])) (own_ne_some (own_kind_apart hc.ans hc.who (by decide)) b hb))
    · rw [hwC]
      exact kidx_stand hc.map (hk.block _ hc.map.lt (fun hz => hz.elim (kidx_cel_ne hc.map hc.cel) (fun e => kidx_own_ne hc.map hc.who e.symm)))
    · rw [hwC]; exact hc.fit
    · rw [hwC]; exact hc.nd
    · rw [hwC]
      have := hc.ln
      refine ⟨this.1, this.2.1, ?_⟩
      rw [List.length_append]
      simp only [List.length_cons, List.length_nil]
      omega
  have hgB : g < W.heap.size := h.cel.lt
  have hkc : ∀ b, b < W.heap.size → ¬ CallB R[i] b → (W3.setCell ⟨R[i].b, 13, none⟩ v').heap[b]? = W.heap[b]? := fun b hb hn => hk.block b hb (fun hz => hn (hz.elim (fun e => .inl e) (fun e => .inr (.inr (.inr e)))))
  have hcel : Cel (W3.setCell ⟨R[i].b, 13, none⟩ v') g #[.map (some mp), cv, .int .i64 (cntS (S.set i (waitC S[i] x)) : Int)] 64 := by
    rw [cntS_set hi2 (by rw [hwC])]
    exact cel_stand h.cel (hkc g hgB (fun hb => (h.head_apart hi hi2 g hb).1 rfl))
  have hch := h.change hi hi2 (q := { R[i] with wv := v' }) (c := waitC S[i] x) (fun b hb hn _ => hkc b hb hn) rfl rfl (by rw [hwC]) (.inl rfl) (hat.imp id (fun e b hb => by
    have : b = Wa.heap.size := by rw [show ({ R[i] with wv := v' } : CallP).wv = v' from rfl, e] at hb; injection hb with hb; exact hb.symm
    rw [this]; exact hs.size)) hcel hself
  exact ⟨_, hch.1, hch.2, hk.mono fun b hb => .inr (.inr (.inr ⟨_, hmem, hb.elim (fun e => .inl e) (fun e => .inr (.inr (.inr e)))⟩))⟩
set_option maxHeartbeats 4000000 in
set_option maxRecDepth 100000 in
theorem tW_yes {B g mp np : Nat} {cv : Value} {R : List CallP} {S : List TCall} (i : Nat) (x : Int) (w : World) (h : TabAt w B g mp np cv R S) (hi : i < S.length) (hlw : (S[i]).2.2.length < 100000) (hBw : B ≤ w.heap.size) :
    Calls Tryd.prog 16 #[.pointer (some ⟨g, 0, none⟩), .int .i64 (i : Int), .int .i64 x] w fun e w' => e = .returned (.int .i64 0) ∧ ∃ R', TabAt w' B g mp np cv R' (S.set i (waitC S[i] x)) ∧ (∀ b, TabB g mp cv R' b → TabB g mp cv R b ∨ w.heap.size ≤ b) ∧ Keep (TabB g mp cv R) w w' := by
  have hi2 : i < R.length := by rw [h.len]; exact hi
  have HAT := Lib.hid (tat_yes i w h hi2)
  have hC := h.call i hi2 hi
  have HWD : Hid (∀ (Wa W3 : World) (v' : Value), Since w Wa → Wa.grownBy W3 R[i].wv.ownBlock → W3.ownsRow B 3 1 v' ((S[i]).2.2.length + 1) ((S[i]).2.2.flatMap intV1 ++ [.int .i64 x]) → (v'.ownBlock = R[i].wv.ownBlock ∨ v'.ownBlock = some Wa.heap.size) → posF (S[i]).2.2 x 0 = none →
      ∃ R', TabAt (W3.setCell ⟨R[i].b, 13, none⟩ v') B g mp np cv R' (S.set i (waitC S[i] x)) ∧ (∀ b, TabB g mp cv R' b → TabB g mp cv R b ∨ w.heap.size ≤ b) ∧ Keep (TabB g mp cv R) w (W3.setCell ⟨R[i].b, 13, none⟩ v')) :=
    fun Wa W3 v' x1 x2 x3 x4 x5 => h.waited hi2 hi x x1 x2 x3 x4 hlw x5
  have HSM := Lib.hid (fun (w' : World) (hs : Since w w') (e : (posF (S[i]).2.2 x 0).isSome = true) => show ∃ R', TabAt w' B g mp np cv R' (S.set i (waitC S[i] x)) ∧ (∀ b, TabB g mp cv R' b → TabB g mp cv R b ∨ w.heap.size ≤ b) ∧ Keep (TabB g mp cv R) w w' from ⟨R, by rw [waitC, if_pos e, List.set_getElem_self]; exact h.next hs, fun _ hb => .inl hb, Keep.of_since hs⟩)
  obtain ⟨Q, hQ⟩ : ∃ Q : World → Prop, Hid (Q = fun w' => ∃ R', TabAt w' B g mp np cv R' (S.set i (waitC S[i] x)) ∧ (∀ b, TabB g mp cv R' b → TabB g mp cv R b ∨ w.heap.size ≤ b) ∧ Keep (TabB g mp cv R) w w') := ⟨fun w' => ∃ R', TabAt w' B g mp np cv R' (S.set i (waitC S[i] x)) ∧ (∀ b, TabB g mp cv R' b → TabB g mp cv R b ∨ w.heap.size ≤ b) ∧ Keep (TabB g mp cv R) w w', rfl⟩
  have hQ2 : ∀ w', (∃ R', TabAt w' B g mp np cv R' (S.set i (waitC S[i] x)) ∧ (∀ b, TabB g mp cv R' b → TabB g mp cv R b ∨ w.heap.size ≤ b) ∧ Keep (TabB g mp cv R) w w') = Q w' := fun w' => by rw [hQ.out]
  simp only [hQ2] at HWD HSM ⊢
  clear hQ hQ2
  obtain ⟨c, hc⟩ : ∃ c, Hid (c = S[i]) := ⟨S[i], rfl⟩
  obtain ⟨q, hq⟩ : ∃ q, Hid (q = R[i]) := ⟨R[i], rfl⟩
  rw [← hq.out] at HAT HWD hC
  rw [← hc.out] at hC hlw HWD HSM
  clear h hi hi2 hc hq
  obtain ⟨qb, qt, qn, qa, qw⟩ := q
  obtain ⟨ca, cs, cw⟩ := c
  simp only at hlw HAT HWD HSM
  have hwho := hC.who
  simp only at hwho
  obtain ⟨wa, wc, rfl⟩ : ∃ a k, qw = .slice a cw.length k := own_slice hwho
  have hc0 : w.cell? ⟨qb, 13, none⟩ = some (.slice wa cw.length wc) := hC.cel.cell 13
  have hcl : Cel w qb (callC (ca, cs, cw) qa qt (.slice wa cw.length wc)) 68 := hC.cel
  have HCL := Lib.hid hcl
  have HIR : Hid (IRow w (.slice wa cw.length wc) cw) := own_irow1 hwho
  have HOW := Lib.hid hwho
  obtain ⟨i0, hi0, hz0, hz1, hz2⟩ := info_parts info_ints
  have HI := Lib.hid (And.intro hi0 (And.intro hz0 (And.intro hz1 hz2)))
  obtain ⟨r, hr⟩ : ∃ r, Hid (r = posF cw x 0) := ⟨_, rfl⟩
  rw [← hr.out] at HWD HSM
  obtain ⟨D, hD⟩ : ∃ D, Hid (D = cw.flatMap intV1) := ⟨_, rfl⟩
  rw [← hD.out] at HOW HWD
  clear hi0 hz0 hz1 hz2 hC hwho hcl
  go_enter Tryd.func16, Tryd.ntmps16
  go_wp2_with fail
  refine HAT.out.mono ?_
  rintro e w2 ⟨rfl, hb2⟩
  have c2 := hb2.cell hc0
  have HCT := Lib.hid (contains_ints (.slice wa cw.length wc) cw x w2 (inext HIR.out hb2) (by omega))
  rw [← hr.out] at HCT
  clear HAT
  go_wp2_with fail
  refine HCT.out.mono ?_
  rintro e w3 ⟨rfl, hb3⟩
  have hS3 := hb2.trans hb3
  have c3 := hS3.cell hc0
  clear c2 HCT hc0 hb2 hb3
  cases r with
  | some j =>
    simp only [Option.isSome_some]
    go_wp2_with fail
    go_ret
    exact ⟨rfl, HSM.out _ hS3 rfl⟩
  | none =>
    simp only [Option.isSome_none]
    have ho3 := own_since HOW.out hS3
    have hB3 : B ≤ w3.heap.size := Nat.le_trans hBw hS3.size
    have hq3 := HCL.out.next hS3
    go_wp2_with (at_builtin; refine wpList_append_own_at _ rfl (.tmp 26) (.tmp 28) 42 rfl B 3 i0 (.int .i64 0) 1 8 Tryd.underlying42 HI.out.1 HI.out.2.1 HI.out.2.2.1 HI.out.2.2.2 rfl (by decide) _ cw.length D rfl (ho3.alloc _) ⟨w3.heap.size, 0, none⟩ 1 1 [.int .i64 x] rfl rfl (cell_one_new _ _ _) (by simp [Value.oneCell']) (by unfold maxLen; omega) (by omega) (by simp; omega) ?_; intro v4 w4 hown4 hg4 _ hat4; obtain ⟨a4, c4, rfl⟩ : ∃ a k, v4 = .slice a (cw.length + 1) k := own_slice hown4; have hq4 := cel_own (hq3.next ((Since.refl _).alloc _)) (ho3.alloc _) (by decide) hg4; have y4 : w4.cell? ⟨qb, 13, none⟩ = some (.slice wa cw.length wc) := hq4.cell 13; have f4 := hq4.free 13; have hX4 := HWD.out _ _ _ (hS3.alloc _) hg4 hown4 hat4 rfl; clear hq4 hown4 hg4 hat4)
    go_ret
    exact ⟨rfl, hX4⟩
end Go.Proofs.YtbgdljcgbhhfdaaDoor
