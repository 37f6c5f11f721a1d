/- Package table: Wait. Package table: Open. -/
import Derived.Test.YtbgdljcgbhhfdaaGreatDoorTbA
namespace Go.Proofs.YtbgdljcgbhhfdaaGreatDoor
open Go.RowKit Go.Maps Go.WideMaps

def waitC (c : TCall) (x : Int) : TCall := if (posF c.2.2 x 0).isSome then c else (c.1, c.2.1, c.2.2 ++ [x])
theorem Keep.of_two {Z : Nat → Prop} {a b c d : World} {r1 r2 : Option Nat} (h : Since a b) (g1 : b.grownBy c r1) (g2 : c.grownBy d r2) (h1 : ∀ x, r1 = some x → Z x) (h2 : ∀ x, r2 = some x → Z x) : Keep Z a d :=
  ((Keep.of_since h).trans (Keep.of_grown (Z := Z) g1 h1) (fun _ hz => .inl hz)).trans (Keep.of_grown (Z := Z) g2 h2) (fun _ hz => .inl hz)
theorem TabAt.waited {W Wa W3 : World} {B g mp np : Nat} {cv : Value} {R : List CallP} {S : List TCall} (h : TabAt W B g mp np cv R S) {i : Nat} (hi : i < R.length) (hi2 : i < S.length) {v' : Value} (x : Int)
    (hs : Since W Wa) (hg : Wa.grownBy W3 R[i].wv.ownBlock) (hown : W3.ownsRow B 3 1 v' ((S[i]).2.2.length + 1) ((S[i]).2.2.flatMap intV1 ++ [.int .i64 x])) (hat : v'.ownBlock = R[i].wv.ownBlock ∨ v'.ownBlock = some Wa.heap.size) (hl : (S[i]).2.2.length < 100000) (hx : posF (S[i]).2.2 x 0 = none) :
    ∃ R', TabAt (W3.setCell ⟨R[i].b, 13, none⟩ v') B g mp np cv R' (S.set i (waitC S[i] x)) ∧ (∀ b, TabB g mp cv R' b → TabB g mp cv R b ∨ W.heap.size ≤ b) ∧ Keep (TabB g mp cv R) W (W3.setCell ⟨R[i].b, 13, none⟩ v') := by
  have hc := h.call i hi hi2
  have hcA := hc.next hs
  have hmem : R[i] ∈ R := List.getElem_mem hi
  have hg2 : W3.grownBy (W3.setCell ⟨R[i].b, 13, none⟩ v') (some R[i].b) := grown_setCell W3 R[i].b 13 v'
  have hk : Keep (fun b => b = R[i].b ∨ R[i].wv.ownBlock = some b) W (W3.setCell ⟨R[i].b, 13, none⟩ v') := Keep.of_two hs hg hg2 (fun b hb => .inr hb) (fun b hb => .inl (by injection hb with hb; exact hb.symm))
  have hwC : waitC S[i] x = ((S[i]).1, (S[i]).2.1, (S[i]).2.2 ++ [x]) := by unfold waitC; rw [hx]; rfl
  have hcel3 : Cel W3 R[i].b (callC S[i] R[i].av R[i].th R[i].wv) 70 := cel_own hcA.cel hcA.who (by decide) hg
  have hcel4 : Cel (W3.setCell ⟨R[i].b, 13, none⟩ v') R[i].b (callC (waitC S[i] x) R[i].av R[i].th v') 70 := hcel3.set (by rw [hwC]; rfl)
  have hrow : (W3.setCell ⟨R[i].b, 13, none⟩ v').ownsRow B 3 1 v' (waitC S[i] x).2.2.length ((waitC S[i] x).2.2.flatMap intV1) := by
    rw [hwC]
    have h1 := own_setCell (u := v') (j := 13) hown hcel3 (by decide)
    simpa [List.flatMap_append, intV1] using h1
  have hself : CallAt (W3.setCell ⟨R[i].b, 13, none⟩ v') B { R[i] with wv := v' } (waitC S[i] x) := by
    refine ⟨hcel4, ?_, hrow, ?_, hc.bb, hc.bt, ?_, ?_, ?_⟩
    · rw [hwC]
      exact hk.own hc.ans (fun b hb hz => hz.elim (fun e => cel_own_ne hc.cel hc.ans (by decide) (by rw [hb, e])) (own_ne_some (own_kind_apart hc.ans hc.who (by decide)) b hb))
    · rw [hwC]
      exact kidx_stand hc.map (hk.block _ hc.map.lt (fun hz => hz.elim (kidx_cel_ne hc.map hc.cel) (fun e => kidx_own_ne hc.map hc.who e.symm)))
    · rw [hwC]; exact hc.fit
    · rw [hwC]; exact hc.nd
    · rw [hwC]
      have := hc.ln
      refine ⟨this.1, this.2.1, ?_⟩
      rw [List.length_append]
      simp only [List.length_cons, List.length_nil]
      omega
  have hgB : g < W.heap.size := h.cel.lt
  have hkc : ∀ b, b < W.heap.size → ¬ CallB R[i] b → (W3.setCell ⟨R[i].b, 13, none⟩ v').heap[b]? = W.heap[b]? := fun b hb hn => hk.block b hb (fun hz => hn (hz.elim (fun e => .inl e) (fun e => .inr (.inr (.inr e)))))
  have hcel : Cel (W3.setCell ⟨R[i].b, 13, none⟩ v') g #[.map (some mp), cv, .int .i64 (cntS (S.set i (waitC S[i] x)) : Int)] 65 := by
    rw [cntS_set hi2 (by rw [hwC])]
    exact cel_stand h.cel (hkc g hgB (fun hb => (h.head_apart hi hi2 g hb).1 rfl))
  have hch := h.change hi hi2 (q := { R[i] with wv := v' }) (c := waitC S[i] x) (fun b hb hn _ => hkc b hb hn) rfl rfl (by rw [hwC]) (.inl rfl) (hat.imp id (fun e b hb => by
    have : b = Wa.heap.size := by rw [show ({ R[i] with wv := v' } : CallP).wv = v' from rfl, e] at hb; injection hb with hb; exact hb.symm
    rw [this]; exact hs.size)) hcel hself
  exact ⟨_, hch.1, hch.2, hk.mono fun b hb => .inr (.inr (.inr ⟨_, hmem, hb.elim (fun e => .inl e) (fun e => .inr (.inr (.inr e)))⟩))⟩
set_option maxHeartbeats 4000000 in
set_option maxRecDepth 100000 in
theorem tW_yes {B g mp np : Nat} {cv : Value} {R : List CallP} {S : List TCall} (i : Nat) (x : Int) (w : World) (h : TabAt w B g mp np cv R S) (hi : i < S.length) (hlw : (S[i]).2.2.length < 100000) (hBw : B ≤ w.heap.size) :
    Calls Tryz.prog 13 #[.pointer (some ⟨g, 0, none⟩), .int .i64 (i : Int), .int .i64 x] w fun e w' => e = .returned (.int .i64 0) ∧ ∃ R', TabAt w' B g mp np cv R' (S.set i (waitC S[i] x)) ∧ (∀ b, TabB g mp cv R' b → TabB g mp cv R b ∨ w.heap.size ≤ b) ∧ Keep (TabB g mp cv R) w w' := by
  have hi2 : i < R.length := by rw [h.len]; exact hi
  have HAT := Lib.hid (tat_yes i w h hi2)
  have hC := h.call i hi2 hi
  have HWD : Hid (∀ (Wa W3 : World) (v' : Value), Since w Wa → Wa.grownBy W3 R[i].wv.ownBlock → W3.ownsRow B 3 1 v' ((S[i]).2.2.length + 1) ((S[i]).2.2.flatMap intV1 ++ [.int .i64 x]) → (v'.ownBlock = R[i].wv.ownBlock ∨ v'.ownBlock = some Wa.heap.size) → posF (S[i]).2.2 x 0 = none →
      ∃ R', TabAt (W3.setCell ⟨R[i].b, 13, none⟩ v') B g mp np cv R' (S.set i (waitC S[i] x)) ∧ (∀ b, TabB g mp cv R' b → TabB g mp cv R b ∨ w.heap.size ≤ b) ∧ Keep (TabB g mp cv R) w (W3.setCell ⟨R[i].b, 13, none⟩ v')) :=
    fun Wa W3 v' x1 x2 x3 x4 x5 => h.waited hi2 hi x x1 x2 x3 x4 hlw x5
  have HSM := Lib.hid (fun (w' : World) (hs : Since w w') (e : (posF (S[i]).2.2 x 0).isSome = true) => show ∃ R', TabAt w' B g mp np cv R' (S.set i (waitC S[i] x)) ∧ (∀ b, TabB g mp cv R' b → TabB g mp cv R b ∨ w.heap.size ≤ b) ∧ Keep (TabB g mp cv R) w w' from ⟨R, by rw [waitC, if_pos e, List.set_getElem_self]; exact h.next hs, fun _ hb => .inl hb, Keep.of_since hs⟩)
  obtain ⟨Q, hQ⟩ : ∃ Q : World → Prop, Hid (Q = fun w' => ∃ R', TabAt w' B g mp np cv R' (S.set i (waitC S[i] x)) ∧ (∀ b, TabB g mp cv R' b → TabB g mp cv R b ∨ w.heap.size ≤ b) ∧ Keep (TabB g mp cv R) w w') := ⟨fun w' => ∃ R', TabAt w' B g mp np cv R' (S.set i (waitC S[i] x)) ∧ (∀ b, TabB g mp cv R' b → TabB g mp cv R b ∨ w.heap.size ≤ b) ∧ Keep (TabB g mp cv R) w w', rfl⟩
  have hQ2 : ∀ w', (∃ R', TabAt w' B g mp np cv R' (S.set i (waitC S[i] x)) ∧ (∀ b, TabB g mp cv R' b → TabB g mp cv R b ∨ w.heap.size ≤ b) ∧ Keep (TabB g mp cv R) w w') = Q w' := fun w' => by rw [hQ.out]
  simp only [hQ2] at HWD HSM ⊢
  clear hQ hQ2
  obtain ⟨c, hc⟩ : ∃ c, Hid (c = S[i]) := ⟨S[i], rfl⟩
  obtain ⟨q, hq⟩ : ∃ q, Hid (q = R[i]) := ⟨R[i], rfl⟩
  rw [← hq.out] at HAT HWD hC
  rw [← hc.out] at hC hlw HWD HSM
  clear h hi hi2 hc hq
  obtain ⟨qb, qt, qn, qa, qw⟩ := q
  obtain ⟨ca, cs, cw⟩ := c
  simp only at hlw HAT HWD HSM
  have hwho := hC.who
  simp only at hwho
  obtain ⟨wa, wc, rfl⟩ : ∃ a k, qw = .slice a cw.length k := own_slice hwho
  have hc0 : w.cell? ⟨qb, 13, none⟩ = some (.slice wa cw.length wc) := hC.cel.cell 13
  have hcl : Cel w qb (callC (ca, cs, cw) qa qt (.slice wa cw.length wc)) 70 := hC.cel
  have HCL := Lib.hid hcl
  have HIR : Hid (IRow w (.slice wa cw.length wc) cw) := own_irow1 hwho
  have HOW := Lib.hid hwho
  obtain ⟨i0, hi0, hz0, hz1, hz2⟩ := info_parts info_ints
  have HI := Lib.hid (And.intro hi0 (And.intro hz0 (And.intro hz1 hz2)))
  obtain ⟨r, hr⟩ : ∃ r, Hid (r = posF cw x 0) := ⟨_, rfl⟩
  rw [← hr.out] at HWD HSM
  obtain ⟨D, hD⟩ : ∃ D, Hid (D = cw.flatMap intV1) := ⟨_, rfl⟩
  rw [← hD.out] at HOW HWD
  clear hi0 hz0 hz1 hz2 hC hwho hcl
  go_enter Tryz.func13, Tryz.ntmps13
  go_wp2_with fail
  refine HAT.out.mono ?_
  rintro e w2 ⟨rfl, hb2⟩
  have c2 := hb2.cell hc0
  have HCT := Lib.hid (contains_ints (.slice wa cw.length wc) cw x w2 (inext HIR.out hb2) (by omega))
  rw [← hr.out] at HCT
  clear HAT
  go_wp2_with fail
  refine HCT.out.mono ?_
  rintro e w3 ⟨rfl, hb3⟩
  have hS3 := hb2.trans hb3
  have c3 := hS3.cell hc0
  clear c2 HCT hc0 hb2 hb3
  cases r with
  | some j =>
    simp only [Option.isSome_some]
    go_wp2_with fail
    go_ret
    exact ⟨rfl, HSM.out _ hS3 rfl⟩
  | none =>
    simp only [Option.isSome_none]
    have ho3 := own_since HOW.out hS3
    have hB3 : B ≤ w3.heap.size := Nat.le_trans hBw hS3.size
    have hq3 := HCL.out.next hS3
    go_wp2_with (at_builtin; refine wpList_append_own_at _ rfl (.tmp 26) (.tmp 28) 54 rfl B 3 i0 (.int .i64 0) 1 8 Tryz.underlying54 HI.out.1 HI.out.2.1 HI.out.2.2.1 HI.out.2.2.2 rfl (by decide) _ cw.length D rfl (ho3.alloc _) ⟨w3.heap.size, 0, none⟩ 1 1 [.int .i64 x] rfl rfl (cell_one_new _ _ _) (by simp [Value.oneCell']) (by unfold maxLen; omega) (by omega) (by simp; omega) ?_; intro v4 w4 hown4 hg4 _ hat4; obtain ⟨a4, c4, rfl⟩ : ∃ a k, v4 = .slice a (cw.length + 1) k := own_slice hown4; have hq4 := cel_own (hq3.next ((Since.refl _).alloc _)) (ho3.alloc _) (by decide) hg4; have y4 : w4.cell? ⟨qb, 13, none⟩ = some (.slice wa cw.length wc) := hq4.cell 13; have f4 := hq4.free 13; have hX4 := HWD.out _ _ _ (hS3.alloc _) hg4 hown4 hat4 rfl; clear hq4 hown4 hg4 hat4)
    go_ret
    exact ⟨rfl, hX4⟩
end Go.Proofs.YtbgdljcgbhhfdaaGreatDoor

namespace Go.Proofs.YtbgdljcgbhhfdaaGreatDoor
open Go.RowKit Go.Maps Go.WideMaps

theorem callC_atm {c : TCall} {av wv : Value} {th j : Nat} {u : Value} (h : (atmC c.1)[j]? = some u) : (callC c av th wv)[j]? = some u := by
  have hj : j < (atmC c.1).size := (Array.getElem?_eq_some_iff.1 h).1
  unfold callC
  rw [Array.getElem?_push, if_neg (by simp only [Array.size_push]; omega), Array.getElem?_push, if_neg (by simp only [Array.size_push]; omega), Array.getElem?_push, if_neg (by omega)]
  exact h
theorem own_ptr_info : (Tryz.prog.info? 67).map (fun i => (i.zero, i.size, i.bytes)) = some (some (.pointer none), 1, 8) := by kernel_rfl
theorem TabAt.opened {W W8 Wm Wa W11 : World} {B g mp np : Nat} {cv : Value} {R : List CallP} {S : List TCall} (h : TabAt W B g mp np cv R S) (hs : Since W W8) (g1 : W8.grownBy Wm (some mp)) (hs2 : Since Wm Wa) (g2 : Wa.grownBy W11 cv.ownBlock) {cb th : Nat} {c : Atm} {cv' : Value}
    (hcel : Cel W8 cb (callC (c, [], []) (.slice none 0 0) th (.slice none 0 0)) 70) (hmap : AIdx W8 th 0 []) (hcb : W.heap.size ≤ cb) (hth : W.heap.size ≤ th) (hM : AIdx Wm mp (np + 1) ((S.map fun c => c.1) ++ [c]))
    (hown : W11.ownsRow B 67 1 cv' (R.length + 1) (R.flatMap ptrV ++ [.pointer (some ⟨cb, 0, none⟩)])) (hat : cv'.ownBlock = cv.ownBlock ∨ cv'.ownBlock = some Wa.heap.size) (hB : B ≤ W.heap.size) (hf : FitsN c) (hnew : c ∉ S.map fun c => c.1) (hl : S.length < 1000) :
    TabAt (W11.setCell ⟨g, 1, none⟩ cv') B g mp (np + 1) cv' (R ++ [⟨cb, th, 0, .slice none 0 0, .slice none 0 0⟩]) (S ++ [(c, [], [])]) ∧ (∀ b, TabB g mp cv' (R ++ [⟨cb, th, 0, .slice none 0 0, .slice none 0 0⟩]) b → TabB g mp cv R b ∨ W.heap.size ≤ b) ∧ Keep (TabB g mp cv R) W (W11.setCell ⟨g, 1, none⟩ cv') := by
  have g3 : W11.grownBy (W11.setCell ⟨g, 1, none⟩ cv') (some g) := grown_setCell W11 g 1 cv'
  have hmpg : mp ≠ g := kidx_cel_ne h.map h.cel
  have hgl := h.cel.lt
  have hml := h.map.lt
  have hcvl := fun b hb => (h.row.lt b hb).2
  have hgcv : some g ≠ cv.ownBlock := cel_own_ne h.cel h.row (by decide)
  have hmcv : some mp ≠ cv.ownBlock := kidx_own_ne h.map h.row
  have newcv : ∀ b, W.heap.size ≤ b → some b ≠ cv.ownBlock := fun b hb e => by have := hcvl b e.symm; omega
  have hk : Keep (fun b => b = g ∨ b = mp ∨ cv.ownBlock = some b) W (W11.setCell ⟨g, 1, none⟩ cv') := by
    refine Keep.trans (Keep.trans (Keep.trans (Keep.trans (Keep.of_since hs) (Keep.of_grown (Z := fun b => b = g ∨ b = mp ∨ cv.ownBlock = some b) g1 ?_) (fun _ hz => .inl hz)) (Keep.of_since (Z := fun b => b = g ∨ b = mp ∨ cv.ownBlock = some b) hs2) (fun _ hz => .inl hz)) (Keep.of_grown (Z := fun b => b = g ∨ b = mp ∨ cv.ownBlock = some b) g2 ?_) (fun _ hz => .inl hz)) (Keep.of_grown (Z := fun b => b = g ∨ b = mp ∨ cv.ownBlock = some b) g3 ?_) (fun _ hz => .inl hz)
    · intro b hb; injection hb with hb; exact .inr (.inl hb.symm)
    · intro b hb; exact .inr (.inr hb)
    · intro b hb; injection hb with hb; exact .inl hb.symm
  have hcel4 : Cel (W11.setCell ⟨g, 1, none⟩ cv') cb (callC (c, [], []) (.slice none 0 0) th (.slice none 0 0)) 70 :=
    ((((hcel.grown g1 (fun e => by injection e with e; omega)).next hs2).grown g2 (newcv cb hcb)).grown g3 (fun e => by injection e with e; omega))
  have hmap4 : AIdx (W11.setCell ⟨g, 1, none⟩ cv') th 0 [] :=
    ((((hmap.far g1 (fun e => by injection e with e; omega)).next hs2).far g2 (newcv th hth)).far g3 (fun e => by injection e with e; omega))
  have hM4 : AIdx (W11.setCell ⟨g, 1, none⟩ cv') mp (np + 1) ((S.map fun c => c.1) ++ [c]) := ((hM.next hs2).far g2 hmcv).far g3 (fun e => hmpg (by injection e))
  have hg11 : Cel W11 g #[.map (some mp), cv, .int .i64 (cntS S : Int)] 65 := (((h.cel.next hs).grown g1 (fun e => hmpg (by injection e with e; exact e.symm))).next hs2).grown g2 hgcv
  have hg4 : Cel (W11.setCell ⟨g, 1, none⟩ cv') g #[.map (some mp), cv', .int .i64 (cntS S : Int)] 65 := hg11.set rfl
  have hrow := own_setCell (u := cv') (j := 1) hown hg11 (by decide)
  have hm := h.more (W4 := W11.setCell ⟨g, 1, none⟩ cv') (np' := np + 1) (cv' := cv') (q := ⟨cb, th, 0, .slice none 0 0, .slice none 0 0⟩) (c := (c, [], []))
    (fun b hb h1 h2 h3 => hk.block b hb (fun hz => hz.elim h1 (fun hz => hz.elim h2 h3)))
    (fun b hb => by
      rcases hb with rfl | rfl | hb | hb
      · exact hcb
      · exact hth
      · cases hb
      · cases hb)
    (hat.imp id (fun e b hb => by rw [e] at hb; injection hb with hb; rw [← hb]; exact Nat.le_trans hs.size (Nat.le_trans g1.size hs2.size))) hg4 rfl hM4 hrow
    ⟨hcel4, World.ownsRow_nil _ _ _ _, World.ownsRow_nil _ _ _ _, hmap4, Nat.le_trans hB hcb, Nat.le_trans hB hth, ⟨hf, fun a ha => by cases ha⟩, List.nodup_nil, ⟨Nat.le_refl _, Nat.zero_le _, Nat.zero_le _⟩⟩ hnew (Nat.le_refl _) hl
  exact ⟨hm.1, hm.2, hk.mono fun b hb => by
    rcases hb with rfl | rfl | hb
    · exact .inl rfl
    · exact .inr (.inl rfl)
    · exact .inr (.inr (.inl hb))⟩
set_option maxHeartbeats 4000000 in
set_option maxRecDepth 100000 in
theorem topen_bad {g : Nat} (a_s a_p : List UInt8) (a_n : Int) (a_v0 a_v1 a_v2 a_v3 : Bool) (a_l0 a_l1 a_l2 a_l3 : List UInt8) (w : World) (hf : FitsN ((a_s, a_p, a_n, (a_v0, a_l0), (a_v1, a_l1), (a_v2, a_l2), (a_v3, a_l3)) : Atm)) (hE : Env w) (hk : ¬ checkA ((a_s, a_p, a_n, (a_v0, a_l0), (a_v1, a_l1), (a_v2, a_l2), (a_v3, a_l3)) : Atm) = 0) :
    Calls Tryz.prog 9 #[.pointer (some ⟨g, 0, none⟩), .agg #[.string ⟨a_s.toArray⟩, .string ⟨a_p.toArray⟩, .int .i64 a_n, .bool a_v0, .string ⟨a_l0.toArray⟩, .bool a_v1, .string ⟨a_l1.toArray⟩, .bool a_v2, .string ⟨a_l2.toArray⟩, .bool a_v3, .string ⟨a_l3.toArray⟩]] w fun e w' => e = .returned (.tuple #[.int .i64 0, .bool false, .int .i64 2]) ∧ Since w w' := by
  have hS : Since w (w.alloc (.cells #[.string ⟨a_s.toArray⟩, .string ⟨a_p.toArray⟩, .int .i64 a_n, .bool a_v0, .string ⟨a_l0.toArray⟩, .bool a_v1, .string ⟨a_l1.toArray⟩, .bool a_v2, .string ⟨a_l2.toArray⟩, .bool a_v3, .string ⟨a_l3.toArray⟩] 33)) := (Since.refl w).alloc _
  have aB : Box (w.alloc (.cells #[.string ⟨a_s.toArray⟩, .string ⟨a_p.toArray⟩, .int .i64 a_n, .bool a_v0, .string ⟨a_l0.toArray⟩, .bool a_v1, .string ⟨a_l1.toArray⟩, .bool a_v2, .string ⟨a_l2.toArray⟩, .bool a_v3, .string ⟨a_l3.toArray⟩] 33)) w.heap.size ((a_s, a_p, a_n, (a_v0, a_l0), (a_v1, a_l1), (a_v2, a_l2), (a_v3, a_l3)) : Atm) := box_new w ((a_s, a_p, a_n, (a_v0, a_l0), (a_v1, a_l1), (a_v2, a_l2), (a_v3, a_l3)) : Atm) _
  have HCK := Lib.hid (check_any a_s a_p a_n a_v0 a_v1 a_v2 a_v3 a_l0 a_l1 a_l2 a_l3 (w.alloc (.cells #[.string ⟨a_s.toArray⟩, .string ⟨a_p.toArray⟩, .int .i64 a_n, .bool a_v0, .string ⟨a_l0.toArray⟩, .bool a_v1, .string ⟨a_l1.toArray⟩, .bool a_v2, .string ⟨a_l2.toArray⟩, .bool a_v3, .string ⟨a_l3.toArray⟩] 33)) hf.1 (hE.next hS))
  obtain ⟨k, hk2⟩ : ∃ k, Hid (k = checkA ((a_s, a_p, a_n, (a_v0, a_l0), (a_v1, a_l1), (a_v2, a_l2), (a_v3, a_l3)) : Atm)) := ⟨_, rfl⟩
  rw [← hk2.out] at HCK hk
  have hk3 : (k == (0 : Int)) = false := beq_false_of_ne hk
  obtain ⟨a_c0, a_c1, a_c2, a_c3, a_c4, a_c5, a_c6, a_c7, a_c8, a_c9, a_c10⟩ := aB.all
  clear hk2 hf hE aB
  go_enter Tryz.func9, Tryz.ntmps9
  go_wp2_with fail
  refine HCK.out.mono ?_
  rintro e w2 ⟨rfl, hb⟩
  clear a_c0 a_c1 a_c2 a_c3 a_c4 a_c5 a_c6 a_c7 a_c8 a_c9 a_c10
  go_wp2_with fail
  go_ret3
  exact ⟨rfl, hS.trans hb⟩
set_option maxHeartbeats 4000000 in
set_option maxRecDepth 100000 in
theorem topen_old {B g mp np : Nat} {cv : Value} {R : List CallP} {S : List TCall} (a_s a_p : List UInt8) (a_n : Int) (a_v0 a_v1 a_v2 a_v3 : Bool) (a_l0 a_l1 a_l2 a_l3 : List UInt8) (w : World) (h : TabAt w B g mp np cv R S) (hf : FitsN ((a_s, a_p, a_n, (a_v0, a_l0), (a_v1, a_l1), (a_v2, a_l2), (a_v3, a_l3)) : Atm)) (hE : Env w) (hk : checkA ((a_s, a_p, a_n, (a_v0, a_l0), (a_v1, a_l1), (a_v2, a_l2), (a_v3, a_l3)) : Atm) = 0) (j : Nat) (hp : posF (S.map fun c => c.1) (canA ((a_s, a_p, a_n, (a_v0, a_l0), (a_v1, a_l1), (a_v2, a_l2), (a_v3, a_l3)) : Atm)) 0 = some j) :
    Calls Tryz.prog 9 #[.pointer (some ⟨g, 0, none⟩), .agg #[.string ⟨a_s.toArray⟩, .string ⟨a_p.toArray⟩, .int .i64 a_n, .bool a_v0, .string ⟨a_l0.toArray⟩, .bool a_v1, .string ⟨a_l1.toArray⟩, .bool a_v2, .string ⟨a_l2.toArray⟩, .bool a_v3, .string ⟨a_l3.toArray⟩]] w fun e w' => e = .returned (.tuple #[.int .i64 (j : Int), .bool false, .int .i64 0]) ∧ Since w w' := by
  have hS : Since w (w.alloc (.cells #[.string ⟨a_s.toArray⟩, .string ⟨a_p.toArray⟩, .int .i64 a_n, .bool a_v0, .string ⟨a_l0.toArray⟩, .bool a_v1, .string ⟨a_l1.toArray⟩, .bool a_v2, .string ⟨a_l2.toArray⟩, .bool a_v3, .string ⟨a_l3.toArray⟩] 33)) := (Since.refl w).alloc _
  have aA : At (w.alloc (.cells #[.string ⟨a_s.toArray⟩, .string ⟨a_p.toArray⟩, .int .i64 a_n, .bool a_v0, .string ⟨a_l0.toArray⟩, .bool a_v1, .string ⟨a_l1.toArray⟩, .bool a_v2, .string ⟨a_l2.toArray⟩, .bool a_v3, .string ⟨a_l3.toArray⟩] 33)) w.heap.size 0 #[.string ⟨a_s.toArray⟩, .string ⟨a_p.toArray⟩, .int .i64 a_n, .bool a_v0, .string ⟨a_l0.toArray⟩, .bool a_v1, .string ⟨a_l1.toArray⟩, .bool a_v2, .string ⟨a_l2.toArray⟩, .bool a_v3, .string ⟨a_l3.toArray⟩] := Cel.at (heap_alloc_new w _)
  have aB : Box (w.alloc (.cells #[.string ⟨a_s.toArray⟩, .string ⟨a_p.toArray⟩, .int .i64 a_n, .bool a_v0, .string ⟨a_l0.toArray⟩, .bool a_v1, .string ⟨a_l1.toArray⟩, .bool a_v2, .string ⟨a_l2.toArray⟩, .bool a_v3, .string ⟨a_l3.toArray⟩] 33)) w.heap.size ((a_s, a_p, a_n, (a_v0, a_l0), (a_v1, a_l1), (a_v2, a_l2), (a_v3, a_l3)) : Atm) := box_new w ((a_s, a_p, a_n, (a_v0, a_l0), (a_v1, a_l1), (a_v2, a_l2), (a_v3, a_l3)) : Atm) _
  have hT := h.next hS
  have HF := Lib.hid hf
  have HCK := Lib.hid (check_any a_s a_p a_n a_v0 a_v1 a_v2 a_v3 a_l0 a_l1 a_l2 a_l3 (w.alloc (.cells #[.string ⟨a_s.toArray⟩, .string ⟨a_p.toArray⟩, .int .i64 a_n, .bool a_v0, .string ⟨a_l0.toArray⟩, .bool a_v1, .string ⟨a_l1.toArray⟩, .bool a_v2, .string ⟨a_l2.toArray⟩, .bool a_v3, .string ⟨a_l3.toArray⟩] 33)) hf.1 (hE.next hS))
  have HPL : Hid (∀ W, TabAt W B g mp np cv R S → Calls Tryz.prog 31 #[.pointer (some ⟨g, 0, none⟩), .agg #[.string ⟨a_s.toArray⟩, .string ⟨a_p.toArray⟩, .int .i64 a_n, .bool a_v0, .string ⟨a_l0.toArray⟩, .bool a_v1, .string ⟨a_l1.toArray⟩, .bool a_v2, .string ⟨a_l2.toArray⟩, .bool a_v3, .string ⟨a_l3.toArray⟩]] W fun e w' => e = .returned (.tuple #[.int .i64 (j : Int), .bool true]) ∧ Since W w') := by
    intro W hT
    have := place_any g mp np (S.map fun c => c.1) a_s a_p a_n a_v0 a_v1 a_v2 a_v3 a_l0 a_l1 a_l2 a_l3 W hT.head hT.map hT.fits hf hT.nd
    rw [hp] at this
    exact this
  rw [hk] at HCK
  obtain ⟨a_c0, a_c1, a_c2, a_c3, a_c4, a_c5, a_c6, a_c7, a_c8, a_c9, a_c10⟩ := aB.all
  clear h hf hE hk hp aB
  go_enter Tryz.func9, Tryz.ntmps9
  go_wp2_with fail
  refine HCK.out.mono ?_
  rintro e w2 ⟨rfl, hb⟩
  replace hS := hS.trans hb
  replace aA := aA.next hb
  replace hT := hT.next hb
  clear HCK hb a_c0 a_c1 a_c2 a_c3 a_c4 a_c5 a_c6 a_c7 a_c8 a_c9 a_c10
  go_upto_region 5 with (fail)
  replace hS := hS.trans ((Since.refl w2).drew)
  replace aA := aA.next ((Since.refl w2).drew)
  replace hT := hT.next ((Since.refl w2).drew)
  refine hx_begin (S := fun W => (Since w W) ∧ (At W w.heap.size 0 #[.string ⟨a_s.toArray⟩, .string ⟨a_p.toArray⟩, .int .i64 a_n, .bool a_v0, .string ⟨a_l0.toArray⟩, .bool a_v1, .string ⟨a_l1.toArray⟩, .bool a_v2, .string ⟨a_l2.toArray⟩, .bool a_v3, .string ⟨a_l3.toArray⟩]) ∧ (TabAt W B g mp np cv R S)) (by kernel_rfl) ⟨hS, aA, hT⟩ (by kernel_rfl) (fun _ _ _ _ _ h => h) (fun hns hQ => ?_)
  refine hx_take (i := 0) (oi := _) (v := .pointer (some ⟨g, 0, none⟩)) rfl rfl hns (by kernel_rfl) (by kernel_rfl) hQ (by kernel_rfl) (fun _ _ => by kernel_rfl) ⟨hS, aA, hT⟩ ?_
  refine hx_take (i := 1) (oi := _) (v := .pointer (some ⟨g, 0, none⟩)) rfl rfl hns (by kernel_rfl) (by kernel_rfl) hQ (by kernel_rfl) (fun _ _ => by kernel_rfl) ⟨hS, aA, hT⟩ ?_
  refine hx_take (i := 2) (oi := _) (v := .pointer (some ⟨g, 0, none⟩)) rfl rfl hns (by kernel_rfl) (by kernel_rfl) hQ (by kernel_rfl) (fun _ _ => by kernel_rfl) ⟨hS, aA, hT⟩ ?_
  refine hx_take (i := 3) (oi := _) (v := .agg #[.string ⟨a_s.toArray⟩, .string ⟨a_p.toArray⟩, .int .i64 a_n, .bool a_v0, .string ⟨a_l0.toArray⟩, .bool a_v1, .string ⟨a_l1.toArray⟩, .bool a_v2, .string ⟨a_l2.toArray⟩, .bool a_v3, .string ⟨a_l3.toArray⟩]) rfl rfl hns (by kernel_rfl) (by kernel_rfl) hQ (by kernel_rfl) (fun W hW => ld_at rfl (by kernel_rfl) (by kernel_rfl) (by kernel_rfl) W (hW.2.1)) ⟨hS, aA, hT⟩ ?_
  refine hx_call (i := 4) (oi := _) 31 #[.pointer (some ⟨g, 0, none⟩), .agg #[.string ⟨a_s.toArray⟩, .string ⟨a_p.toArray⟩, .int .i64 a_n, .bool a_v0, .string ⟨a_l0.toArray⟩, .bool a_v1, .string ⟨a_l1.toArray⟩, .bool a_v2, .string ⟨a_l2.toArray⟩, .bool a_v3, .string ⟨a_l3.toArray⟩]] rfl rfl (by kernel_rfl) (by kernel_rfl) (by kernel_rfl) (HPL.out _ hT) ?_
  rintro e wx61 ⟨rfl, hb⟩
  replace hS := hS.trans hb
  replace aA := aA.next hb
  replace hT := hT.next hb
  clear hb
  refine ⟨_, rfl, ⟨hS, aA, hT⟩, ?_⟩
  refine hx_take (i := 5) (oi := _) (v := .tuple #[.int .i64 (j : Int), .bool true]) rfl rfl hns (by kernel_rfl) (by kernel_rfl) hQ (by kernel_rfl) (fun _ _ => by kernel_rfl) ⟨hS, aA, hT⟩ ?_
  refine hx_take (i := 6) (oi := _) (v := .int .i64 (j : Int)) rfl rfl hns (by kernel_rfl) (by kernel_rfl) hQ (by kernel_rfl) (fun _ _ => by kernel_rfl) ⟨hS, aA, hT⟩ ?_
  refine hx_take (i := 7) (oi := _) (v := .bool true) rfl rfl hns (by kernel_rfl) (by kernel_rfl) hQ (by kernel_rfl) (fun _ _ => by kernel_rfl) ⟨hS, aA, hT⟩ ?_
  refine hx_take (i := 8) (oi := _) (v := .int .i64 (j : Int)) rfl rfl hns (by kernel_rfl) (by kernel_rfl) hQ (by kernel_rfl) (fun _ _ => by kernel_rfl) ⟨hS, aA, hT⟩ ?_
  refine hx_take (i := 9) (oi := _) (v := .bool true) rfl rfl hns (by kernel_rfl) (by kernel_rfl) hQ (by kernel_rfl) (fun _ _ => by kernel_rfl) ⟨hS, aA, hT⟩ ?_
  refine wpAnyH_done (by kernel_rfl) ?_ _
  clear hns hQ
  simp only [List.set_cons_zero, List.set_cons_succ]
  go_wp2_with fail
  go_ret3
  exact ⟨rfl, hS⟩
set_option maxHeartbeats 8000000 in
set_option maxRecDepth 100000 in
theorem topen_new {B g mp np : Nat} {cv : Value} {R : List CallP} {S : List TCall} (a_s a_p : List UInt8) (a_n : Int) (a_v0 a_v1 a_v2 a_v3 : Bool) (a_l0 a_l1 a_l2 a_l3 : List UInt8) (w : World) (h : TabAt w B g mp np cv R S) (hf : FitsN ((a_s, a_p, a_n, (a_v0, a_l0), (a_v1, a_l1), (a_v2, a_l2), (a_v3, a_l3)) : Atm)) (hE : Env w) (hk : checkA ((a_s, a_p, a_n, (a_v0, a_l0), (a_v1, a_l1), (a_v2, a_l2), (a_v3, a_l3)) : Atm) = 0) (hp : posF (S.map fun c => c.1) (canA ((a_s, a_p, a_n, (a_v0, a_l0), (a_v1, a_l1), (a_v2, a_l2), (a_v3, a_l3)) : Atm)) 0 = none) (hl : S.length < 1000) (hBw : B ≤ w.heap.size) :
    Calls Tryz.prog 9 #[.pointer (some ⟨g, 0, none⟩), .agg #[.string ⟨a_s.toArray⟩, .string ⟨a_p.toArray⟩, .int .i64 a_n, .bool a_v0, .string ⟨a_l0.toArray⟩, .bool a_v1, .string ⟨a_l1.toArray⟩, .bool a_v2, .string ⟨a_l2.toArray⟩, .bool a_v3, .string ⟨a_l3.toArray⟩]] w fun e w' => e = .returned (.tuple #[.int .i64 (S.length : Int), .bool true, .int .i64 0]) ∧ ∃ np' cv' R', TabAt w' B g mp np' cv' R' (S ++ [(canA ((a_s, a_p, a_n, (a_v0, a_l0), (a_v1, a_l1), (a_v2, a_l2), (a_v3, a_l3)) : Atm), [], [])]) ∧ (∀ b, TabB g mp cv' R' b → TabB g mp cv R b ∨ w.heap.size ≤ b) ∧ Keep (TabB g mp cv R) w w' := by
  have hS : Since w (w.alloc (.cells #[.string ⟨a_s.toArray⟩, .string ⟨a_p.toArray⟩, .int .i64 a_n, .bool a_v0, .string ⟨a_l0.toArray⟩, .bool a_v1, .string ⟨a_l1.toArray⟩, .bool a_v2, .string ⟨a_l2.toArray⟩, .bool a_v3, .string ⟨a_l3.toArray⟩] 33)) := (Since.refl w).alloc _
  have aA : At (w.alloc (.cells #[.string ⟨a_s.toArray⟩, .string ⟨a_p.toArray⟩, .int .i64 a_n, .bool a_v0, .string ⟨a_l0.toArray⟩, .bool a_v1, .string ⟨a_l1.toArray⟩, .bool a_v2, .string ⟨a_l2.toArray⟩, .bool a_v3, .string ⟨a_l3.toArray⟩] 33)) w.heap.size 0 #[.string ⟨a_s.toArray⟩, .string ⟨a_p.toArray⟩, .int .i64 a_n, .bool a_v0, .string ⟨a_l0.toArray⟩, .bool a_v1, .string ⟨a_l1.toArray⟩, .bool a_v2, .string ⟨a_l2.toArray⟩, .bool a_v3, .string ⟨a_l3.toArray⟩] := Cel.at (heap_alloc_new w _)
  have aB : Box (w.alloc (.cells #[.string ⟨a_s.toArray⟩, .string ⟨a_p.toArray⟩, .int .i64 a_n, .bool a_v0, .string ⟨a_l0.toArray⟩, .bool a_v1, .string ⟨a_l1.toArray⟩, .bool a_v2, .string ⟨a_l2.toArray⟩, .bool a_v3, .string ⟨a_l3.toArray⟩] 33)) w.heap.size ((a_s, a_p, a_n, (a_v0, a_l0), (a_v1, a_l1), (a_v2, a_l2), (a_v3, a_l3)) : Atm) := box_new w ((a_s, a_p, a_n, (a_v0, a_l0), (a_v1, a_l1), (a_v2, a_l2), (a_v3, a_l3)) : Atm) _
  have hT := h.next hS
  have HF := Lib.hid hf
  have HCK := Lib.hid (check_any a_s a_p a_n a_v0 a_v1 a_v2 a_v3 a_l0 a_l1 a_l2 a_l3 (w.alloc (.cells #[.string ⟨a_s.toArray⟩, .string ⟨a_p.toArray⟩, .int .i64 a_n, .bool a_v0, .string ⟨a_l0.toArray⟩, .bool a_v1, .string ⟨a_l1.toArray⟩, .bool a_v2, .string ⟨a_l2.toArray⟩, .bool a_v3, .string ⟨a_l3.toArray⟩] 33)) hf.1 (hE.next hS))
  have HPL : Hid (∀ W, TabAt W B g mp np cv R S → Calls Tryz.prog 31 #[.pointer (some ⟨g, 0, none⟩), .agg #[.string ⟨a_s.toArray⟩, .string ⟨a_p.toArray⟩, .int .i64 a_n, .bool a_v0, .string ⟨a_l0.toArray⟩, .bool a_v1, .string ⟨a_l1.toArray⟩, .bool a_v2, .string ⟨a_l2.toArray⟩, .bool a_v3, .string ⟨a_l3.toArray⟩]] W fun e w' => e = .returned (.tuple #[.int .i64 0, .bool false]) ∧ Since W w') := by
    intro W hT
    have := place_any g mp np (S.map fun c => c.1) a_s a_p a_n a_v0 a_v1 a_v2 a_v3 a_l0 a_l1 a_l2 a_l3 W hT.head hT.map hT.fits hf hT.nd
    rw [hp] at this
    exact this
  have HCA := Lib.hid (fun W => canon_any a_s a_p a_n a_v0 a_v1 a_v2 a_v3 a_l0 a_l1 a_l2 a_l3 W hf.1)
  have hfc := canA_fits hf
  have hnew := posF_none.1 hp
  rw [hk] at HCK
  obtain ⟨c, hc⟩ : ∃ c, Hid (c = canA ((a_s, a_p, a_n, (a_v0, a_l0), (a_v1, a_l1), (a_v2, a_l2), (a_v3, a_l3)) : Atm)) := ⟨_, rfl⟩
  rw [← hc.out] at HCA hfc hnew ⊢
  obtain ⟨c_s, c_p, c_n, ⟨c_v0, c_l0⟩, ⟨c_v1, c_l1⟩, ⟨c_v2, c_l2⟩, ⟨c_v3, c_l3⟩⟩ := c
  replace HCA : Hid (∀ W, Calls Tryz.prog 32 #[.agg #[.string ⟨a_s.toArray⟩, .string ⟨a_p.toArray⟩, .int .i64 a_n, .bool a_v0, .string ⟨a_l0.toArray⟩, .bool a_v1, .string ⟨a_l1.toArray⟩, .bool a_v2, .string ⟨a_l2.toArray⟩, .bool a_v3, .string ⟨a_l3.toArray⟩]] W fun e w' => e = .returned (.agg #[.string ⟨c_s.toArray⟩, .string ⟨c_p.toArray⟩, .int .i64 c_n, .bool c_v0, .string ⟨c_l0.toArray⟩, .bool c_v1, .string ⟨c_l1.toArray⟩, .bool c_v2, .string ⟨c_l2.toArray⟩, .bool c_v3, .string ⟨c_l3.toArray⟩]) ∧ Since W w') := HCA
  have HFC := Lib.hid hfc
  have HOP : Hid (∀ {W8 Wm Wa W11 : World} {cb th : Nat} {cv' : Value}, Since w W8 → W8.grownBy Wm (some mp) → Since Wm Wa → Wa.grownBy W11 cv.ownBlock → Cel W8 cb (callC (((c_s, c_p, c_n, (c_v0, c_l0), (c_v1, c_l1), (c_v2, c_l2), (c_v3, c_l3)) : Atm), [], []) (.slice none 0 0) th (.slice none 0 0)) 70 → AIdx W8 th 0 [] → w.heap.size ≤ cb → w.heap.size ≤ th → AIdx Wm mp (np + 1) ((S.map fun c => c.1) ++ [((c_s, c_p, c_n, (c_v0, c_l0), (c_v1, c_l1), (c_v2, c_l2), (c_v3, c_l3)) : Atm)]) →
      W11.ownsRow B 67 1 cv' (R.length + 1) (R.flatMap ptrV ++ [.pointer (some ⟨cb, 0, none⟩)]) → (cv'.ownBlock = cv.ownBlock ∨ cv'.ownBlock = some Wa.heap.size) → ∃ nx cx Rx, TabAt (W11.setCell ⟨g, 1, none⟩ cv') B g mp nx cx Rx (S ++ [(((c_s, c_p, c_n, (c_v0, c_l0), (c_v1, c_l1), (c_v2, c_l2), (c_v3, c_l3)) : Atm), [], [])]) ∧ (∀ b, TabB g mp cx Rx b → TabB g mp cv R b ∨ w.heap.size ≤ b) ∧ Keep (TabB g mp cv R) w (W11.setCell ⟨g, 1, none⟩ cv')) := by
    intro W8 Wm Wa W11 cb th cv' x1 x2 x3 x4 x5 x6 x7 x8 x9 x10 x11
    exact ⟨_, _, _, h.opened x1 x2 x3 x4 x5 x6 x7 x8 x9 x10 x11 hBw hfc hnew hl⟩
  have hlen := h.len
  obtain ⟨P, hP⟩ : ∃ P, Hid (P = S.map fun c => c.1) := ⟨_, rfl⟩
  have HPLN : Hid (P.length = S.length) := by show _ = _; rw [hP.out, List.length_map]
  have HPB : Hid (P.length ≤ 1000000) := by show _ ≤ _; rw [HPLN.out]; omega
  have HNP : Hid (np < maxLen) := by have := h.ln; show _ < _; unfold maxLen; omega
  have HRL : Hid (R.length < 1000) := by show _ < _; omega
  have HBW : Hid (B ≤ w.heap.size) := hBw
  have HGM : Hid (some g ≠ some mp) := fun e => kidx_cel_ne h.map h.cel (by injection e with e; exact e.symm)
  have HML : Hid (mp < w.heap.size) := h.map.lt
  obtain ⟨D, hD⟩ : ∃ D, Hid (D = R.flatMap ptrV) := ⟨_, rfl⟩
  obtain ⟨N, hN⟩ : ∃ N, Hid (N = R.length) := ⟨_, rfl⟩
  rw [← hP.out, ← hD.out, ← hN.out] at HOP
  rw [← hN.out] at HRL
  obtain ⟨va, vc, rfl⟩ := h.slice
  obtain ⟨a_c0, a_c1, a_c2, a_c3, a_c4, a_c5, a_c6, a_c7, a_c8, a_c9, a_c10⟩ := aB.all
  clear h hf hE hk hp hnew hfc hc hlen hBw hl
  go_enter Tryz.func9, Tryz.ntmps9
  go_wp2_with fail
  refine HCK.out.mono ?_
  rintro e w2 ⟨rfl, hb⟩
  replace hS := hS.trans hb
  replace aA := aA.next hb
  replace hT := hT.next hb
  replace aB := aB.next hb
  clear HCK a_c0 a_c1 a_c2 a_c3 a_c4 a_c5 a_c6 a_c7 a_c8 a_c9 a_c10 hb
  go_upto_region 5 with (fail)
  replace hS := hS.trans ((Since.refl w2).drew)
  replace aA := aA.next ((Since.refl w2).drew)
  replace hT := hT.next ((Since.refl w2).drew)
  replace aB := aB.next ((Since.refl w2).drew)
  refine hx_begin (S := fun W => (Since w W) ∧ (At W w.heap.size 0 #[.string ⟨a_s.toArray⟩, .string ⟨a_p.toArray⟩, .int .i64 a_n, .bool a_v0, .string ⟨a_l0.toArray⟩, .bool a_v1, .string ⟨a_l1.toArray⟩, .bool a_v2, .string ⟨a_l2.toArray⟩, .bool a_v3, .string ⟨a_l3.toArray⟩]) ∧ (TabAt W B g mp np (.slice va S.length vc) R S) ∧ (Box W w.heap.size ((a_s, a_p, a_n, (a_v0, a_l0), (a_v1, a_l1), (a_v2, a_l2), (a_v3, a_l3)) : Atm))) (by kernel_rfl) ⟨hS, aA, hT, aB⟩ (by kernel_rfl) (fun _ _ _ _ _ h => h) (fun hns hQ => ?_)
  refine hx_take (i := 0) (oi := _) (v := .pointer (some ⟨g, 0, none⟩)) rfl rfl hns (by kernel_rfl) (by kernel_rfl) hQ (by kernel_rfl) (fun _ _ => by kernel_rfl) ⟨hS, aA, hT, aB⟩ ?_
  refine hx_take (i := 1) (oi := _) (v := .pointer (some ⟨g, 0, none⟩)) rfl rfl hns (by kernel_rfl) (by kernel_rfl) hQ (by kernel_rfl) (fun _ _ => by kernel_rfl) ⟨hS, aA, hT, aB⟩ ?_
  refine hx_take (i := 2) (oi := _) (v := .pointer (some ⟨g, 0, none⟩)) rfl rfl hns (by kernel_rfl) (by kernel_rfl) hQ (by kernel_rfl) (fun _ _ => by kernel_rfl) ⟨hS, aA, hT, aB⟩ ?_
  refine hx_take (i := 3) (oi := _) (v := .agg #[.string ⟨a_s.toArray⟩, .string ⟨a_p.toArray⟩, .int .i64 a_n, .bool a_v0, .string ⟨a_l0.toArray⟩, .bool a_v1, .string ⟨a_l1.toArray⟩, .bool a_v2, .string ⟨a_l2.toArray⟩, .bool a_v3, .string ⟨a_l3.toArray⟩]) rfl rfl hns (by kernel_rfl) (by kernel_rfl) hQ (by kernel_rfl) (fun W hW => ld_at rfl (by kernel_rfl) (by kernel_rfl) (by kernel_rfl) W (hW.2.1)) ⟨hS, aA, hT, aB⟩ ?_
  refine hx_call (i := 4) (oi := _) 31 #[.pointer (some ⟨g, 0, none⟩), .agg #[.string ⟨a_s.toArray⟩, .string ⟨a_p.toArray⟩, .int .i64 a_n, .bool a_v0, .string ⟨a_l0.toArray⟩, .bool a_v1, .string ⟨a_l1.toArray⟩, .bool a_v2, .string ⟨a_l2.toArray⟩, .bool a_v3, .string ⟨a_l3.toArray⟩]] rfl rfl (by kernel_rfl) (by kernel_rfl) (by kernel_rfl) (HPL.out _ hT) ?_
  rintro e wx61 ⟨rfl, hb⟩
  replace hS := hS.trans hb
  replace aA := aA.next hb
  replace hT := hT.next hb
  replace aB := aB.next hb
  clear hb
  refine ⟨_, rfl, ⟨hS, aA, hT, aB⟩, ?_⟩
  refine hx_take (i := 5) (oi := _) (v := .tuple #[.int .i64 0, .bool false]) rfl rfl hns (by kernel_rfl) (by kernel_rfl) hQ (by kernel_rfl) (fun _ _ => by kernel_rfl) ⟨hS, aA, hT, aB⟩ ?_
  refine hx_take (i := 6) (oi := _) (v := .int .i64 0) rfl rfl hns (by kernel_rfl) (by kernel_rfl) hQ (by kernel_rfl) (fun _ _ => by kernel_rfl) ⟨hS, aA, hT, aB⟩ ?_
  refine hx_take (i := 7) (oi := _) (v := .bool false) rfl rfl hns (by kernel_rfl) (by kernel_rfl) hQ (by kernel_rfl) (fun _ _ => by kernel_rfl) ⟨hS, aA, hT, aB⟩ ?_
  refine hx_take (i := 8) (oi := _) (v := .int .i64 0) rfl rfl hns (by kernel_rfl) (by kernel_rfl) hQ (by kernel_rfl) (fun _ _ => by kernel_rfl) ⟨hS, aA, hT, aB⟩ ?_
  refine hx_take (i := 9) (oi := _) (v := .bool false) rfl rfl hns (by kernel_rfl) (by kernel_rfl) hQ (by kernel_rfl) (fun _ _ => by kernel_rfl) ⟨hS, aA, hT, aB⟩ ?_
  refine wpAnyH_done (by kernel_rfl) ?_ _
  clear hns hQ
  simp only [List.set_cons_zero, List.set_cons_succ]
  obtain ⟨a_c0, a_c1, a_c2, a_c3, a_c4, a_c5, a_c6, a_c7, a_c8, a_c9, a_c10⟩ := aB.all
  clear aB aA
  go_wp2_with fail
  refine (HCA.out _).mono ?_
  rintro e w4 ⟨rfl, hb⟩
  replace hS := hS.trans hb
  replace hT := hT.next hb
  clear HCA hb a_c0 a_c1 a_c2 a_c3 a_c4 a_c5 a_c6 a_c7 a_c8 a_c9 a_c10
  have hS8 : Since w4 ((w4.alloc (.map #[] 0)).alloc (.cells #[.string ⟨c_s.toArray⟩, .string ⟨c_p.toArray⟩, .int .i64 c_n, .bool c_v0, .string ⟨c_l0.toArray⟩, .bool c_v1, .string ⟨c_l1.toArray⟩, .bool c_v2, .string ⟨c_l2.toArray⟩, .bool c_v3, .string ⟨c_l3.toArray⟩, .slice none 0 0, .map (some w4.heap.size), .slice none 0 0] 70)) := ((Since.refl _).alloc _).alloc _
  have hm8 : AIdx ((w4.alloc (.map #[] 0)).alloc (.cells #[.string ⟨c_s.toArray⟩, .string ⟨c_p.toArray⟩, .int .i64 c_n, .bool c_v0, .string ⟨c_l0.toArray⟩, .bool c_v1, .string ⟨c_l1.toArray⟩, .bool c_v2, .string ⟨c_l2.toArray⟩, .bool c_v3, .string ⟨c_l3.toArray⟩, .slice none 0 0, .map (some w4.heap.size), .slice none 0 0] 70)) w4.heap.size 0 [] := (kidx_made _ _ w4).next ((Since.refl _).alloc _)
  have hc8 : Cel ((w4.alloc (.map #[] 0)).alloc (.cells #[.string ⟨c_s.toArray⟩, .string ⟨c_p.toArray⟩, .int .i64 c_n, .bool c_v0, .string ⟨c_l0.toArray⟩, .bool c_v1, .string ⟨c_l1.toArray⟩, .bool c_v2, .string ⟨c_l2.toArray⟩, .bool c_v3, .string ⟨c_l3.toArray⟩, .slice none 0 0, .map (some w4.heap.size), .slice none 0 0] 70)) (w4.heap.size + 1) #[.string ⟨c_s.toArray⟩, .string ⟨c_p.toArray⟩, .int .i64 c_n, .bool c_v0, .string ⟨c_l0.toArray⟩, .bool c_v1, .string ⟨c_l1.toArray⟩, .bool c_v2, .string ⟨c_l2.toArray⟩, .bool c_v3, .string ⟨c_l3.toArray⟩, .slice none 0 0, .map (some w4.heap.size), .slice none 0 0] 70 := by
    have h := heap_alloc_new (w4.alloc (.map #[] 0)) (.cells #[.string ⟨c_s.toArray⟩, .string ⟨c_p.toArray⟩, .int .i64 c_n, .bool c_v0, .string ⟨c_l0.toArray⟩, .bool c_v1, .string ⟨c_l1.toArray⟩, .bool c_v2, .string ⟨c_l2.toArray⟩, .bool c_v3, .string ⟨c_l3.toArray⟩, .slice none 0 0, .map (some w4.heap.size), .slice none 0 0] 70)
    rw [World.size_alloc] at h
    exact h
  have hw4 : Hid (w.heap.size ≤ w4.heap.size) := hS.size
  replace hS := hS.trans hS8
  replace hT := hT.next hS8
  have g1 : ((w4.alloc (.map #[] 0)).alloc (.cells #[.string ⟨c_s.toArray⟩, .string ⟨c_p.toArray⟩, .int .i64 c_n, .bool c_v0, .string ⟨c_l0.toArray⟩, .bool c_v1, .string ⟨c_l1.toArray⟩, .bool c_v2, .string ⟨c_l2.toArray⟩, .bool c_v3, .string ⟨c_l3.toArray⟩, .slice none 0 0, .map (some w4.heap.size), .slice none 0 0] 70)).cell? ⟨g, 1, none⟩ = some (.slice va S.length vc) := hT.cel.cell 1
  have hmm := @run_makeMap Tryz.prog
  have HS8 := Lib.hid hS
  have HT8 := Lib.hid hT
  have HM8 := Lib.hid hm8
  have HC8 := Lib.hid hc8
  clear hS8 hS hT hm8 hc8
  go_upto_region 10 with (fail)
  generalize hw8 : (w4.alloc (.map #[] 0)).alloc (.cells #[.string ⟨c_s.toArray⟩, .string ⟨c_p.toArray⟩, .int .i64 c_n, .bool c_v0, .string ⟨c_l0.toArray⟩, .bool c_v1, .string ⟨c_l1.toArray⟩, .bool c_v2, .string ⟨c_l2.toArray⟩, .bool c_v3, .string ⟨c_l3.toArray⟩, .slice none 0 0, .map (some w4.heap.size), .slice none 0 0] 70) = w8 at *
  clear hw8 hmm
  have hS := HS8.out
  have hT := HT8.out
  have hm8 := HM8.out
  have hc8 := HC8.out
  clear HS8 HT8 HM8 HC8
  have hG := hT.head
  have hM : AIdx w8 mp np P := by rw [hP.out]; exact hT.map
  have hR8 : w8.ownsRow B 67 1 (.slice va S.length vc) N D := by rw [hD.out, hN.out]; exact hT.row
  have hG8 := hT.cel
  have hC : At w8 (w4.heap.size + 1) 0 #[.string ⟨c_s.toArray⟩, .string ⟨c_p.toArray⟩, .int .i64 c_n, .bool c_v0, .string ⟨c_l0.toArray⟩, .bool c_v1, .string ⟨c_l1.toArray⟩, .bool c_v2, .string ⟨c_l2.toArray⟩, .bool c_v3, .string ⟨c_l3.toArray⟩] := fun j u hu => by
    rw [Nat.zero_add, hc8.cell j]
    exact callC_atm (c := (((c_s, c_p, c_n, (c_v0, c_l0), (c_v1, c_l1), (c_v2, c_l2), (c_v3, c_l3)) : Atm), [], [])) (av := .slice none 0 0) (wv := .slice none 0 0) (th := w4.heap.size) hu
  clear hT
  have HCM : Hid (some (w4.heap.size + 1) ≠ some mp) := fun e => by
    injection e with e
    have := HML.out
    have := hw4.out
    omega
  have HNO : Hid ((Value.slice va S.length vc).ownBlock = none ∨ (Value.slice va S.length vc).ownBlock ≠ some mp) := .inr fun e => kidx_own_ne hM hR8 e.symm
  have HBB : Hid (∀ W, Since w w8.drew → w8.drew.grownBy W (some mp) → B ≤ W.heap.size) := fun W h1 h2 => Nat.le_trans HBW.out (Nat.le_trans h1.size h2.size)
  replace hG := hG.next ((Since.refl w8).drew)
  replace hC := hC.next ((Since.refl w8).drew)
  replace hM := hM.next ((Since.refl w8).drew)
  refine hx_begin (S := fun W => (At W g 0 #[.map (some mp)]) ∧ (At W (w4.heap.size + 1) 0 #[.string ⟨c_s.toArray⟩, .string ⟨c_p.toArray⟩, .int .i64 c_n, .bool c_v0, .string ⟨c_l0.toArray⟩, .bool c_v1, .string ⟨c_l1.toArray⟩, .bool c_v2, .string ⟨c_l2.toArray⟩, .bool c_v3, .string ⟨c_l3.toArray⟩])) (by kernel_rfl) ⟨hG, hC⟩ (by kernel_rfl) (fun _ _ _ _ _ h => h) (fun hns hQ => ?_)
  refine hx_take (i := 0) (oi := _) (v := .pointer (some ⟨g, 0, none⟩)) rfl rfl hns (by kernel_rfl) (by kernel_rfl) hQ (by kernel_rfl) (fun _ _ => by kernel_rfl) ⟨hG, hC⟩ ?_
  refine hx_take (i := 1) (oi := _) (v := .pointer (some ⟨g, 0, none⟩)) rfl rfl hns (by kernel_rfl) (by kernel_rfl) hQ (by kernel_rfl) (fun _ _ => by kernel_rfl) ⟨hG, hC⟩ ?_
  refine hx_take (i := 2) (oi := _) (v := .pointer (some ⟨g, 0, none⟩)) rfl rfl hns (by kernel_rfl) (by kernel_rfl) hQ (by kernel_rfl) (fun _ _ => by kernel_rfl) ⟨hG, hC⟩ ?_
  refine hx_take (i := 3) (oi := _) (v := .pointer (some ⟨g, 0, none⟩)) rfl rfl hns (by kernel_rfl) (by kernel_rfl) hQ (by kernel_rfl) (fun _ _ => by kernel_rfl) ⟨hG, hC⟩ ?_
  refine hx_take (i := 4) (oi := _) (v := .map (some mp)) rfl rfl hns (by kernel_rfl) (by kernel_rfl) hQ (by kernel_rfl) (fun W hW => ld_one rfl (by kernel_rfl) (by kernel_rfl) W (hW.1 0 _ rfl)) ⟨hG, hC⟩ ?_
  refine hx_take (i := 5) (oi := _) (v := .pointer (some ⟨w4.heap.size + 1, 0, none⟩)) rfl rfl hns (by kernel_rfl) (by kernel_rfl) hQ (by kernel_rfl) (fun _ _ => by kernel_rfl) ⟨hG, hC⟩ ?_
  refine hx_take (i := 6) (oi := _) (v := .pointer (some ⟨w4.heap.size + 1, 0, none⟩)) rfl rfl hns (by kernel_rfl) (by kernel_rfl) hQ (by kernel_rfl) (fun _ _ => by kernel_rfl) ⟨hG, hC⟩ ?_
  refine hx_take (i := 7) (oi := _) (v := .pointer (some ⟨w4.heap.size + 1, 0, none⟩)) rfl rfl hns (by kernel_rfl) (by kernel_rfl) hQ (by kernel_rfl) (fun _ _ => by kernel_rfl) ⟨hG, hC⟩ ?_
  refine hx_take (i := 8) (oi := _) (v := .agg #[.string ⟨c_s.toArray⟩, .string ⟨c_p.toArray⟩, .int .i64 c_n, .bool c_v0, .string ⟨c_l0.toArray⟩, .bool c_v1, .string ⟨c_l1.toArray⟩, .bool c_v2, .string ⟨c_l2.toArray⟩, .bool c_v3, .string ⟨c_l3.toArray⟩]) rfl rfl hns (by kernel_rfl) (by kernel_rfl) hQ (by kernel_rfl) (fun W hW => ld_at rfl (by kernel_rfl) (by kernel_rfl) (by kernel_rfl) W (hW.2)) ⟨hG, hC⟩ ?_
  refine hx_take (i := 9) (oi := _) (v := .int .i64 (S.length : Int)) rfl rfl hns (by kernel_rfl) (by kernel_rfl) hQ (by kernel_rfl) (fun _ _ => by kernel_rfl) ⟨hG, hC⟩ ?_
  obtain ⟨wx71, hrun, hset, hgrow⟩ := kidx_put hM aklaw Tryz.underlying60 ((c_s, c_p, c_n, (c_v0, c_l0), (c_v1, c_l1), (c_v2, c_l2), (c_v3, c_l3)) : Atm) HNP.out HPB.out (keyOf_atom c_s c_p c_n c_v0 c_v1 c_v2 c_v3 c_l0 c_l1 c_l2 c_l3 HFC.out)
  rw [HPLN.out] at hrun
  replace hG := hG.far hgrow HGM.out
  replace hC := hC.far hgrow HCM.out
  refine hx_store (i := 10) (oi := _) wx71 rfl rfl (by kernel_rfl) (by kernel_rfl) (upd_run rfl (by kernel_rfl) (by kernel_rfl) (by kernel_rfl) hrun) ⟨hG, hC⟩ ?_
  refine wpAnyH_done (by kernel_rfl) ?_ _
  clear hns hQ
  simp only [List.set_cons_zero, List.set_cons_succ]
  have hSz := hS.drew
  have hR9 : wx71.ownsRow B 67 1 (.slice va S.length vc) N D := (own_since hR8 ((Since.refl w8).drew)).kept hgrow HNO.out
  have hG9 : Cel wx71 g #[.map (some mp), .slice va S.length vc, .int .i64 (cntS S : Int)] 65 := (hG8.next ((Since.refl w8).drew)).grown hgrow HGM.out
  have g9 : wx71.cell? ⟨g, 1, none⟩ = some (.slice va S.length vc) := hG9.cell 1
  have HB9 : Hid (B ≤ wx71.heap.size) := HBB.out _ hSz hgrow
  clear hG hC
  obtain ⟨i0, hi0, hz0, hz1, hz2⟩ := info_parts own_ptr_info
  have HI := Lib.hid (And.intro hi0 (And.intro hz0 (And.intro hz1 hz2)))
  clear hi0 hz0 hz1 hz2
  go_wp2_with (at_builtin; refine wpList_append_own_at _ rfl (.tmp 51) (.tmp 53) 63 rfl B 67 i0 (.pointer none) 1 8 Tryz.underlying63 HI.out.1 HI.out.2.1 HI.out.2.2.1 HI.out.2.2.2 rfl (by decide) _ N D rfl (hR9.alloc _) ⟨wx71.heap.size, 0, none⟩ 1 1 [.pointer (some ⟨w4.heap.size + 1, 0, none⟩)] rfl rfl (cell_one_new _ _ _) (by simp [Value.oneCell']) (by have := HRL.out; unfold maxLen; omega) (by have := HRL.out; omega) (by have := HB9.out; simp; omega) ?_; intro v11 w11 hown11 hg11 _ hat11; obtain ⟨a11, c11, rfl⟩ : ∃ a k, v11 = .slice a (N + 1) k := own_slice hown11; have hG11 := cel_own (hG9.next ((Since.refl _).alloc _)) (hR9.alloc _) (by decide) hg11; have y11 : w11.cell? ⟨g, 1, none⟩ = some (.slice va S.length vc) := hG11.cell 1; have f11 := hG11.free 1; have hX := HOP.out hSz hgrow ((Since.refl _).alloc _) hg11 (hc8.next ((Since.refl w8).drew)) (hm8.next ((Since.refl w8).drew)) (by have := hw4.out; omega) hw4.out hset hown11 hat11; clear hG11 hown11 hg11 hat11)
  go_ret3
  exact ⟨rfl, hX⟩
end Go.Proofs.YtbgdljcgbhhfdaaGreatDoor
