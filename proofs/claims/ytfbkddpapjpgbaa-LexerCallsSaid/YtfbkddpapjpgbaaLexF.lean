/- vouchsafelaw09.steps: what Each tells, as a list. -/
import Derived.Test.YtfbkddpapjpgbaaRange
namespace Go.Proofs.Ytfbkddpapjpgbaa
open Go.RowKit Go.Shelf
attribute [local go_sem] Oper.semAt_some

def stL (x : Item) : List Value := [.int .i64 x.1.1, .string ⟨x.1.2.1.toArray⟩, .int .i64 (x.1.2.2 : Int), .int .i64 x.2]
theorem infoStep : (Try.prog.info? 38).map (fun i => (i.zero, i.size, i.bytes)) = some (some (.agg #[.int .i64 0, .string ByteArray.empty, .int .i64 0, .int .i64 0]), 4, 40) := by kernel_rfl
theorem run_funcNil (c : Array Value) (W : World) : (binOp .eql 49 (.func (.func 38) #[] c) .nilFunc).run Try.prog W = .ok (.bool false) W := by kernel_rfl
attribute [local go_sem ↓] run_funcNil
theorem one_new (w : World) (t : TypeId) (v : Value) {k : Nat} (h : w.heap.size = k) : OneIs (w.alloc (.cells #[v] t)) k t v := by
  subst h
  exact heap_alloc_new w _
/-- An append to a row of the call's own, within a fence: which block holds the new row. -/
theorem wpListIn_append_at {F : Fence} {n : Nat} {P : Program} (w : World) {ops : Array Oper} {rest : List Oper} {o : Oper} {a : Act} {Q : Exit → Act → World → Prop}
    (hg : o.guard = none) (s x : Operand) (t : TypeId) (hop : o.op = Op.call { callee := Callee.builtin Builtin.append, args := #[s, x], argTypes := #[t, t] })
    (base : Nat) (e : TypeId) (i : TypeInfo) (z : Value) (size bytes : Nat) (h1 : P.underlying t = some (.slice e)) (h2 : P.info? e = some i) (h3 : i.zero = some z) (h4 : i.size = size) (h5 : i.bytes = bytes) (h6 : z.cells.size = size) (h7 : 0 < size)
    (v : Value) (k : Nat) (xs : List Value) (hs : a.eval s = v) (hown : w.ownsRow base e size v k xs) (ad : Addr) (m c : Nat) (news : List Value) (hx : a.eval x = .slice (some ad) m c) (hn : news.length = m * size)
    (hc : ∀ j u, news[j]? = some u → w.cell? (ad.add j) = some u) (h1c : ∀ u ∈ news, u.oneCell' = true) (b1 : k + m ≤ maxLen) (b2 : (k + m) * bytes ≤ 140737488355328) (b3 : base ≤ w.heap.size)
    (hK : ∀ v' w', w'.ownsRow base e size v' (k + m) (xs ++ news) → w.grownBy w' v.ownBlock → (v'.ownBlock = v.ownBlock ∨ v'.ownBlock = some w.heap.size) → wpListIn F n P ops Q rest (a.put o.dst v') w') : wpListIn F n P ops Q (o :: rest) a w := by
  refine wpListIn_plain hg fun K hK2 => ?_
  obtain ⟨v', w', hrun, r1, r2, _, r3⟩ := run_append_own_at (P := P) w base t o.type e i z size bytes h1 h2 h3 h4 h5 h6 h7 v k xs hown ad m c news hn hc h1c b1 b2 b3
  unfold Oper.wpIn
  constructor
  · simp [Oper.about, hop, resolve, Target.leads, Sem.run_pure]
  · rw [Oper.semAt_plain F _ _ (by rw [hop]; intro c hc2; cases hc2)]
    simp [execOp, hop, resolve, invoke, builtin, hs, hx, hrun, Result.andThen]
    exact hK2 _ _ (hK v' w' r1 r2 r3)
theorem own_sl {w : World} {B : Nat} {e : TypeId} {size : Nat} {v : Value} {n : Nat} {xs : List Value} (h : w.ownsRow B e size v n xs) : ∃ a c, v = .slice a n c := by
  obtain ⟨_, ⟨h1, h2⟩ | ⟨g, cap, cur, hv, _⟩⟩ := h
  · subst h2; exact ⟨none, 0, h1⟩
  · exact ⟨_, _, hv⟩
/-- Between two rounds. -/
structure Mid (w : World) (s : List UInt8) (b : Nat) (pre : List Item) (A : World) : Prop where
  since : Since w A
  far : w.heap.size + 7 ≤ b
  sb : OneIs A w.heap.size 9 (.string ⟨s.toArray⟩)
  r2 : OneIs A (w.heap.size + 1) 34 (.slice none 0 0)
  r3 : OneIs A (w.heap.size + 2) 4 (.bool false)
  out : ∃ v, OneIs A (w.heap.size + 4) 34 v ∧ A.ownsRow (w.heap.size + 7) 38 4 v pre.length (pre.flatMap stL) ∧ v.ownBlock ≠ some b ∧ v.ownBlock ≠ some (b + 1)
theorem Mid.grown {w A B : World} {s : List UInt8} {b : Nat} {pre : List Item} {row : Option Nat} (h : Mid w s b pre A) (hg : A.grownBy B row) (hr : ∀ r, row = some r → r = b + 1 ∨ r = w.heap.size + 5 ∨ r = w.heap.size + 6) : Mid w s b pre B := by
  have hf := h.far
  have ne : ∀ k, k < w.heap.size + 5 → some k ≠ row := fun k hk e => by
    rcases hr k e.symm with h1 | h1 | h1 <;> omega
  obtain ⟨v, h1, h2, h3, h4⟩ := h.out
  refine ⟨Below.grown h.since hg h.since.size (fun r e => by rcases hr r e with h1 | h1 | h1 <;> omega), hf, h.sb.grown hg (ne _ (by omega)), h.r2.grown hg (ne _ (by omega)), h.r3.grown hg (ne _ (by omega)), v, h1.grown hg (ne _ (by omega)), h2.kept hg ?_, h3, h4⟩
  cases row with
  | none => exact (by
      cases hv : v.ownBlock with
      | none => exact .inl rfl
      | some k => exact .inr (by simp))
  | some r =>
    refine .inr fun e => ?_
    have h6 := own_ge h2 r e
    rcases hr r rfl with h5 | h5 | h5
    · exact h4 (by rw [e, h5])
    · omega
    · omega
set_option maxHeartbeats 8000000 in
set_option maxRecDepth 100000 in
theorem steps_any (s : List UInt8) (hs : s.length ≤ 65536) (w : World) :
    Calls Try.prog 15 #[.string ⟨s.toArray⟩] w fun e w' => ∃ v, e = .returned (.tuple #[v, .bool true]) ∧ w'.ownsRow w.heap.size 38 4 v (itemsL s).length ((itemsL s).flatMap stL) ∧ Since w w' := by
  obtain ⟨i0, hi, hz0, hz1, hz2⟩ := info_parts infoStep
  have HI0 := Lib.hid (And.intro hi (And.intro hz0 (And.intro hz1 hz2)))
  clear hi hz0 hz1 hz2
  refine (callsIn_wide (n := 5)).1 ?_
  refine callsIn_of_wp_marks Try.func15 rfl trivial ?_ rfl
  simp only [Try.ntmps15, List.size_toArray, List.length_cons, List.length_nil, Nat.reduceAdd, Nat.reduceSub, Array.replicate_succ, Array.replicate_zero, List.push_toArray, List.append_toArray, List.nil_append, List.cons_append]
  gi_wp2_with (refine ⟨trivial, ?_⟩; gi_at_call 28; refine (callsIn_wide.2 (each_any s _)).mono ?_; rintro e w1 ⟨rfl, rfl⟩)
  obtain ⟨W0, hW0⟩ : ∃ W0, (((((w.alloc (.cells #[.string ⟨s.toArray⟩] 9)).alloc (.cells #[.slice none 0 0] 34)).alloc (.cells #[.bool false] 4)).alloc (.cells #[.string ⟨s.toArray⟩] 9)).alloc (.cells #[.slice none 0 0] 34)) = W0 := ⟨_, rfl⟩
  have q0 : OneIs W0 w.heap.size 9 (.string ⟨s.toArray⟩) := by rw [← hW0]; exact ((((one_new w _ _ rfl).alloc _).alloc _).alloc _).alloc _
  have q1 : OneIs W0 (w.heap.size + 1) 34 (.slice none 0 0) := by rw [← hW0]; exact (((one_new _ _ _ (by simp)).alloc _).alloc _).alloc _
  have q2 : OneIs W0 (w.heap.size + 2) 4 (.bool false) := by rw [← hW0]; exact ((one_new _ _ _ (by simp)).alloc _).alloc _
  have q3 : OneIs W0 (w.heap.size + 3) 9 (.string ⟨s.toArray⟩) := by rw [← hW0]; exact (one_new _ _ _ (by simp)).alloc _
  have q4 : OneIs W0 (w.heap.size + 4) 34 (.slice none 0 0) := by rw [← hW0]; exact one_new _ _ _ (by simp)
  have hz : W0.heap.size = w.heap.size + 5 := by rw [← hW0]; simp
  have hS0 : Since w W0 := by rw [← hW0]; exact (((((Since.refl w).alloc _).alloc _).alloc _).alloc _).alloc _
  rw [hW0]
  clear hW0
  refine range_own (N := s.length) (xs := itemsL s) (encs := argV) (by omega) (gf := 38) (lb := #[.pointer (some ⟨w.heap.size + 3, 0, none⟩)]) rfl (enters_of Try.func38 (by kernel_rfl) rfl) (fun _ => rfl) ?it (Mid w s) ?hI ?hfar ?h0 ?hround ?hdone
  case it =>
    intro l J W hJ hY hg hj
    exact each1_in 4 (by omega) s hs l (w.heap.size + 3) J hJ hY W (q3.grown hg (by simp)) hj
  case hI =>
    intro b pre A B row h hg hr
    exact h.grown hg (fun r e => by
      rcases hr r e with h1 | h1 | h1
      · exact .inl h1
      · exact .inr (.inl (by omega))
      · exact .inr (.inr (by omega)))
  case hfar =>
    intro b pre A h
    have := h.far
    omega
  case h0 =>
    intro W hg hs2
    exact ⟨Below.grown hS0 hg (by omega) (by simp), by omega, q0.grown hg (by simp), q1.grown hg (by simp), q2.grown hg (by simp), .slice none 0 0, q4.grown hg (by simp), World.ownsRow_nil _ _ _ _, by simp [Value.ownBlock], by simp [Value.ownBlock]⟩
  case hround =>
    intro l b pre x A h hb hlen
    obtain ⟨⟨q, u, at_⟩, er⟩ := x
    simp only [argV]
    gi_wp2
    refine ⟨KeepsFour.grown (row := none) (grown_alloc (World.grownBy.refl A _) _) (by simp), fun A2 hg2 hs2 => ?_⟩
    have h2 : Mid w s b pre A2 := (h.grown (grown_alloc (World.grownBy.refl A none) _) (by simp)).grown hg2 (fun r e => by cases e; exact .inr (.inr (by omega)))
    have hsz : A.heap.size < A2.heap.size := by rw [hs2, World.size_alloc]; omega
    have htk : A2.heap[A.heap.size]? = some (.cells #[.int .i64 q, .string ⟨u.toArray⟩, .int .i64 (at_ : Int)] 25 (0, 0)) := (hg2.block A.heap.size (by simp) (by intro e; injection e with e; have := h.far; omega)).trans (heap_alloc_new A _)
    have t0 : A2.cell? ⟨A.heap.size, 0, none⟩ = some (.int .i64 q) := cell_of_row _ _ _ _ _ _ htk
    have t1 : A2.cell? ⟨A.heap.size, 1, none⟩ = some (.string ⟨u.toArray⟩) := cell_of_row _ _ _ _ _ _ htk
    have t2 : A2.cell? ⟨A.heap.size, 2, none⟩ = some (.int .i64 (at_ : Int)) := cell_of_row _ _ _ _ _ _ htk
    have hfar := h2.far
    have hsb := h2.sb.cell
    obtain ⟨v, hv, hrow, hn0, hn1⟩ := h2.out
    have hsince := h2.since
    have hr2 := h2.r2
    have hr3 := h2.r3
    have hsb2 := h2.sb
    obtain ⟨va, vc, rfl⟩ := own_sl hrow
    have hvc := hv.cell
    have hvf := hv.free
    have hvl := hv.lt
    have hlen2 : ¬ (s.length : Int) < (pre.length : Int) := by omega
    have hAsz := hsince.size
    clear h2 h htk
    have HS2 := Lib.hid hs2
    clear hs2
    gi_wp2_with (gi_at_builtin; refine wpListIn_append_at _ rfl _ _ 34 rfl (w.heap.size + 7) 38 i0 (.agg #[.int .i64 0, .string ByteArray.empty, .int .i64 0, .int .i64 0]) 4 40 Try.underlying34 HI0.out.1 HI0.out.2.1 HI0.out.2.2.1 HI0.out.2.2.2 rfl (by decide) _ pre.length (pre.flatMap stL) rfl (hrow.alloc _) ⟨A2.heap.size, 0, none⟩ 1 1 (stL ((q, u, at_), er)) rfl rfl ?c0 ?c1 ?c2 ?c3 ?c4 ?_)
    case c0 => intro j u1 h; exact h
    case c1 =>
      intro u1 h
      simp only [stL, List.mem_cons, List.not_mem_nil, or_false] at h
      rcases h with rfl | rfl | rfl | rfl <;> rfl
    case c2 => unfold maxLen; omega
    case c3 => omega
    case c4 => omega
    intro v' w6 hown6 hgrow hob
    obtain ⟨va', vc', rfl⟩ := own_sl hown6
    have hgA := grown_trans (grown_alloc (World.grownBy.refl A2 (Value.slice va pre.length vc).ownBlock) (.cells #[.int .i64 q, .string ⟨u.toArray⟩, .int .i64 (at_ : Int), .int .i64 er] 38)) hgrow
    have hrw : ∀ r, (Value.slice va pre.length vc).ownBlock = some r → w.heap.size + 7 ≤ r ∧ r ≠ b ∧ r ≠ b + 1 := fun r e => ⟨own_ge hrow r e, fun e2 => hn0 (by rw [e, e2]), fun e2 => hn1 (by rw [e, e2])⟩
    have ne : ∀ k, k < w.heap.size + 7 → some k ≠ (Value.slice va pre.length vc).ownBlock := fun k hk e => by have := (hrw k e.symm).1; omega
    have g1 := hv.grown hgA (ne _ (by omega))
    have g1c := g1.cell
    have g1f := g1.free
    have g1l := g1.lt
    have hk6 : KeepsFour W0.heap.size b A2 w6 := KeepsFour.grown hgA (fun r e => by have := hrw r e; exact ⟨by omega, by omega, this.2.1, this.2.2⟩)
    have hb2 : b + 1 < A2.heap.size := by omega
    have hx0 : (Value.slice va' (pre.length + 1) vc').ownBlock ≠ some b ∧ (Value.slice va' (pre.length + 1) vc').ownBlock ≠ some (b + 1) := by
      rcases hob with h | h
      · rw [h]; exact ⟨hn0, hn1⟩
      · rw [h]
        exact ⟨fun e => by injection e; omega, fun e => by injection e; omega⟩
    have hM : Mid w s b (pre ++ [((q, u, at_), er)]) (w6.setCell ⟨w.heap.size + 4, 0, none⟩ (.slice va' (pre.length + 1) vc')) := by
      refine ⟨(Below.grown hsince hgA hAsz (fun r e => by have := (hrw r e).1; omega)).setCell (p := ⟨w.heap.size + 4, 0, none⟩) (by show w.heap.size ≤ w.heap.size + 4; omega) _, hfar, (hsb2.grown hgA (ne _ (by omega))).far (by show w.heap.size ≠ w.heap.size + 4; omega) _, (hr2.grown hgA (ne _ (by omega))).far (by show w.heap.size + 1 ≠ w.heap.size + 4; omega) _, (hr3.grown hgA (ne _ (by omega))).far (by show w.heap.size + 2 ≠ w.heap.size + 4; omega) _, _, g1.set _, ?_, hx0.1, hx0.2⟩
      have h7 := hown6.kept (grown_set (World.grownBy.refl w6 (some (w.heap.size + 4))) (p := ⟨w.heap.size + 4, 0, none⟩) (.inl rfl) (.slice va' (pre.length + 1) vc')) (by
        cases hq : (Value.slice va' (pre.length + 1) vc').ownBlock with
        | none => exact .inl rfl
        | some k => exact .inr (fun e => by injection e with e; have := own_ge hown6 k hq; omega))
      simpa using h7
    have hk7 : KeepsFour W0.heap.size b A2 (w6.setCell ⟨w.heap.size + 4, 0, none⟩ (.slice va' (pre.length + 1) vc')) := hk6.trans (KeepsFour.grown (grown_set (World.grownBy.refl w6 (some (w.heap.size + 4))) (p := ⟨w.heap.size + 4, 0, none⟩) (.inl rfl) _) (fun r e => by cases e; exact ⟨by omega, by omega, by omega, by omega⟩))
    clear hown6 hgrow hob hgA hk6
    rw [hz] at hk7
    gi_wp2
    exact ⟨hk7, hM⟩
  case hdone =>
    intro b W h hk
    obtain ⟨v, hv, hrow, -, -⟩ := h.out
    obtain ⟨va, vc, rfl⟩ := own_sl hrow
    have hvc := hv.cell
    have h2c := h.r2.cell
    have h2f := h.r2.free
    have h2l := h.r2.lt
    have h3c := h.r3.cell
    have h3f := h.r3.free
    have h3l := h.r3.lt
    gi_wp2
    have hk2 : ((W.setCell ⟨w.heap.size + 1, 0, none⟩ (.slice va (itemsL s).length vc)).setCell ⟨w.heap.size + 2, 0, none⟩ (.bool true)).heap[W0.heap.size]? = some (.deferred (some [])) := blk_far (blk_far hk (by show W0.heap.size ≠ w.heap.size + 1; omega) _) (by show W0.heap.size ≠ w.heap.size + 2; omega) _
    refine ⟨by simp, .inl ⟨_, _, rfl, run_takeDeferred hk2, ?_⟩⟩
    have hne5 : w.heap.size + 1 ≠ W0.heap.size := by omega
    have hne6 : w.heap.size + 2 ≠ W0.heap.size := by omega
    have r2 : OneIs (((W.setCell ⟨w.heap.size + 1, 0, none⟩ (.slice va (itemsL s).length vc)).setCell ⟨w.heap.size + 2, 0, none⟩ (.bool true)).putObj W0.heap.size (.deferred none)) (w.heap.size + 1) 34 (.slice va (itemsL s).length vc) := (World.putObj_heap_other hne5).trans ((h.r2.set _).far (by show w.heap.size + 1 ≠ w.heap.size + 2; omega) _)
    have r3 : OneIs (((W.setCell ⟨w.heap.size + 1, 0, none⟩ (.slice va (itemsL s).length vc)).setCell ⟨w.heap.size + 2, 0, none⟩ (.bool true)).putObj W0.heap.size (.deferred none)) (w.heap.size + 2) 4 (.bool true) := (World.putObj_heap_other hne6).trans ((h.r3.far (by show w.heap.size + 2 ≠ w.heap.size + 1; omega) _).set _)
    have r2c := r2.cell
    have r3c := r3.cell
    have hrow9 : (((W.setCell ⟨w.heap.size + 1, 0, none⟩ (.slice va (itemsL s).length vc)).setCell ⟨w.heap.size + 2, 0, none⟩ (.bool true)).putObj W0.heap.size (.deferred none)).ownsRow (w.heap.size + 7) 38 4 (.slice va (itemsL s).length vc) (itemsL s).length ((itemsL s).flatMap stL) := own_grown (own_grown (own_grown hrow (grown_set (World.grownBy.refl W (some (w.heap.size + 1))) (p := ⟨w.heap.size + 1, 0, none⟩) (.inl rfl) _) (by omega)) (grown_set (World.grownBy.refl _ (some (w.heap.size + 2))) (p := ⟨w.heap.size + 2, 0, none⟩) (.inl rfl) _) (by omega)) (grownBy_putObj' _ W0.heap.size _) (by omega)
    have hS9 : Since w (((W.setCell ⟨w.heap.size + 1, 0, none⟩ (.slice va (itemsL s).length vc)).setCell ⟨w.heap.size + 2, 0, none⟩ (.bool true)).putObj W0.heap.size (.deferred none)) := Below.grown ((h.since.setCell (p := ⟨w.heap.size + 1, 0, none⟩) (by show w.heap.size ≤ w.heap.size + 1; omega) _).setCell (p := ⟨w.heap.size + 2, 0, none⟩) (by show w.heap.size ≤ w.heap.size + 2; omega) _) (grownBy_putObj' _ W0.heap.size _) ((h.since.setCell (p := ⟨w.heap.size + 1, 0, none⟩) (by show w.heap.size ≤ w.heap.size + 1; omega) _).setCell (p := ⟨w.heap.size + 2, 0, none⟩) (by show w.heap.size ≤ w.heap.size + 2; omega) _).size (fun r e => by cases e; omega)
    refine ⟨.tuple #[.slice va (itemsL s).length vc, .bool true], by simp [results, Try.results15, go_sem, r2c, r3c], ?_⟩
    exact ⟨_, rfl, own_down hrow9 (by omega), hS9⟩
end Go.Proofs.Ytfbkddpapjpgbaa
