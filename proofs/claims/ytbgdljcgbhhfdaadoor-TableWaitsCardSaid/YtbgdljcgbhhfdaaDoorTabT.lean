/- Package table: a table and the blocks that it may change. -/
import Derived.Test.YtbgdljcgbhhfdaaDoorTabH
namespace Go.Proofs.YtbgdljcgbhhfdaaDoor
open Go.RowKit Go.Maps Go.WideMaps

/-- The blocks of a table. -/
def TabB (g mp : Nat) (cv : Value) (R : List CallP) (b : Nat) : Prop := b = g ∨ b = mp ∨ cv.ownBlock = some b ∨ ∃ p ∈ R, b = p.b ∨ b = p.th ∨ p.av.ownBlock = some b ∨ p.wv.ownBlock = some b
theorem own_stand {w w' : World} {B : Nat} {e : TypeId} {K n : Nat} {v : Value} {xs : List Value} (h : w.ownsRow B e K v n xs) (hb : ∀ b, v.ownBlock = some b → w'.heap[b]? = w.heap[b]?) : w'.ownsRow B e K v n xs := by
  refine ⟨h.1, ?_⟩
  rcases h.2 with hn | ⟨g, cap, cur, rfl, hbg, hg, rest⟩
  · exact .inl hn
  · exact .inr ⟨g, cap, cur, rfl, hbg, (hb g rfl).trans hg, rest⟩
theorem cel_stand {w w' : World} {g : Nat} {cs : Array Value} {T : TypeId} (h : Cel w g cs T) (hb : w'.heap[g]? = w.heap[g]?) : Cel w' g cs T := hb.trans h
theorem kidx_stand {α : Type} {k : TypeId} {kl : α → Lit} {W W' : World} {b n : Nat} {P : List α} (h : KIdx k kl W b n P) (hs : W'.heap[b]? = W.heap[b]?) : KIdx k kl W' b n P := by
  obtain ⟨es, clock, hb, r⟩ := h
  exact ⟨es, clock, hs.trans hb, r⟩
theorem TabAt.stand {W W' : World} {B g mp np : Nat} {cv : Value} {R : List CallP} {S : List TCall} (h : TabAt W B g mp np cv R S) (hk : ∀ b, TabB g mp cv R b → W'.heap[b]? = W.heap[b]?) : TabAt W' B g mp np cv R S := by
  refine ⟨cel_stand h.cel (hk g (.inl rfl)), kidx_stand h.map (hk mp (.inr (.inl rfl))), own_stand h.row (fun b hb => hk b (.inr (.inr (.inl hb)))), h.len, fun i h1 h2 => ?_, h.apart, h.mapart, h.bg, h.bm, h.nd, h.ln⟩
  have hc := h.call i h1 h2
  have hm : R[i] ∈ R := List.getElem_mem h1
  have hx : ∀ b, (b = R[i].b ∨ b = R[i].th ∨ R[i].av.ownBlock = some b ∨ R[i].wv.ownBlock = some b) → W'.heap[b]? = W.heap[b]? := fun b hb => hk b (.inr (.inr (.inr ⟨R[i], hm, hb⟩)))
  exact ⟨cel_stand hc.cel (hx _ (.inl rfl)), own_stand hc.ans (fun b hb => hx b (.inr (.inr (.inl hb)))), own_stand hc.who (fun b hb => hx b (.inr (.inr (.inr hb)))), kidx_stand hc.map (hx _ (.inr (.inl rfl))), hc.bb, hc.bt, hc.fit, hc.nd, hc.ln⟩
theorem TabAt.inside {W : World} {B g mp np : Nat} {cv : Value} {R : List CallP} {S : List TCall} (h : TabAt W B g mp np cv R S) : ∀ b, TabB g mp cv R b → B ≤ b ∧ b < W.heap.size := by
  intro b hb
  rcases hb with rfl | rfl | hb | ⟨p, hp, hb⟩
  · exact ⟨h.bg, h.cel.lt⟩
  · exact ⟨h.bm, h.map.lt⟩
  · exact h.row.lt b hb
  · obtain ⟨i, hi, rfl⟩ := List.getElem_of_mem hp
    have hc := h.call i hi (by rw [← h.len]; exact hi)
    rcases hb with rfl | rfl | hb | hb
    · exact ⟨hc.bb, hc.cel.lt⟩
    · exact ⟨hc.bt, hc.map.lt⟩
    · exact hc.ans.lt b hb
    · exact hc.who.lt b hb
/-- But for the blocks of Z, and what is new, nothing has changed. -/
structure Keep (Z : Nat → Prop) (W W' : World) : Prop where
  os : W'.os = W.os
  tape : W'.tape = W.tape
  output : W'.output = W.output
  size : W.heap.size ≤ W'.heap.size
  block : ∀ k, k < W.heap.size → ¬ Z k → W'.heap[k]? = W.heap[k]?
/-- Z, and the blocks that are new. -/
def Zx (Z : Nat → Prop) (W W' : World) (b : Nat) : Prop := Z b ∨ (W.heap.size ≤ b ∧ b < W'.heap.size)
theorem Keep.refl (Z : Nat → Prop) (W : World) : Keep Z W W := ⟨rfl, rfl, rfl, Nat.le_refl _, fun _ _ _ => rfl⟩
theorem Keep.of_since {Z : Nat → Prop} {W W' : World} (h : Since W W') : Keep Z W W' := ⟨h.os, h.tape, h.output, h.size, fun k hk _ => h.block k hk⟩
theorem Keep.of_grown {Z : Nat → Prop} {W W' : World} {row : Option Nat} (h : W.grownBy W' row) (hr : ∀ b, row = some b → Z b) : Keep Z W W' := ⟨h.os, h.tape, h.output, h.size, fun k hk hz => h.block k hk (fun e => hz (hr k e.symm))⟩
theorem Keep.trans {Z Z' : Nat → Prop} {a b c : World} (h : Keep Z a b) (k : Keep Z' b c) (hz : ∀ x, Z' x → Z x ∨ a.heap.size ≤ x) : Keep Z a c :=
  ⟨k.os.trans h.os, k.tape.trans h.tape, k.output.trans h.output, Nat.le_trans h.size k.size, fun i hi hn => (k.block i (Nat.lt_of_lt_of_le hi h.size) (fun hz' => (hz i hz').elim hn (fun hl => absurd hi (by omega)))).trans (h.block i hi hn)⟩
theorem Keep.mono {Z Z' : Nat → Prop} {a b : World} (h : Keep Z a b) (hz : ∀ x, Z x → Z' x) : Keep Z' a b := ⟨h.os, h.tape, h.output, h.size, fun k hk hn => h.block k hk (fun e => hn (hz k e))⟩
theorem Keep.since {Z : Nat → Prop} {w0 a b : World} (h : Keep Z a b) (h0 : Since w0 a) (hz : ∀ x, Z x → w0.heap.size ≤ x) : Since w0 b :=
  Below.trans h0 ⟨h.os, h.tape, h.output, h.size, fun k hk => h.block k (Nat.lt_of_lt_of_le hk h0.size) (fun e => absurd (hz k e) (by omega))⟩
theorem Keep.cel {Z : Nat → Prop} {W W' : World} (hk : Keep Z W W') {g : Nat} {cs : Array Value} {T : TypeId} (h : Cel W g cs T) (hz : ¬ Z g) : Cel W' g cs T := cel_stand h (hk.block g h.lt hz)
theorem Keep.own {Z : Nat → Prop} {w w' : World} (hk : Keep Z w w') {B : Nat} {e : TypeId} {K n : Nat} {v : Value} {xs : List Value} (h : w.ownsRow B e K v n xs) (hz : ∀ b, v.ownBlock = some b → ¬ Z b) : w'.ownsRow B e K v n xs :=
  own_stand h fun b hb => hk.block b (h.lt b hb).2 (hz b hb)
/-- A table from block B on, whose blocks are among Z. -/
structure Tab (W : World) (B g : Nat) (Z : Nat → Prop) (S : List TCall) : Prop where
  ex : ∃ mp np cv R, TabAt W B g mp np cv R S ∧ ∀ b, TabB g mp cv R b → Z b
  low : ∀ b, Z b → B ≤ b ∧ b < W.heap.size
theorem Tab.stand {W W' : World} {B g : Nat} {Z : Nat → Prop} {S : List TCall} (h : Tab W B g Z S) (hs : W.heap.size ≤ W'.heap.size) (hk : ∀ b, Z b → W'.heap[b]? = W.heap[b]?) : Tab W' B g Z S := by
  obtain ⟨⟨mp, np, cv, R, h1, h2⟩, h3⟩ := h
  exact ⟨⟨mp, np, cv, R, h1.stand (fun b hb => hk b (h2 b hb)), h2⟩, fun b hb => ⟨(h3 b hb).1, Nat.lt_of_lt_of_le (h3 b hb).2 hs⟩⟩
theorem Tab.next {W W' : World} {B g : Nat} {Z : Nat → Prop} {S : List TCall} (h : Tab W B g Z S) (hs : Since W W') : Tab W' B g Z S := h.stand hs.size fun b hb => hs.block b (h.low b hb).2
theorem Tab.far {W W' : World} {B g : Nat} {Z : Nat → Prop} {S : List TCall} {row : Option Nat} (h : Tab W B g Z S) (hg : W.grownBy W' row) (hz : ∀ b, row = some b → ¬ Z b) : Tab W' B g Z S :=
  h.stand hg.size fun b hb => hg.block b (h.low b hb).2 (fun e => hz b e.symm hb)
/-- What a call of the table leaves. -/
structure TOp (Z : Nat → Prop) (B g : Nat) (w w' : World) (S' : List TCall) : Prop where
  tab : Tab w' B g (Zx Z w w') S'
  keep : Keep Z w w'
theorem TOp.of {W W' : World} {B g mp mp' np' : Nat} {cv cv' : Value} {R R' : List CallP} {S' : List TCall} {Z : Nat → Prop} (hZ : ∀ b, TabB g mp cv R b → Z b) (hlow : ∀ b, Z b → B ≤ b ∧ b < W.heap.size) (hB : B ≤ W.heap.size) (h : TabAt W' B g mp' np' cv' R' S') (hk : Keep (TabB g mp cv R) W W') (hb : ∀ b, TabB g mp' cv' R' b → TabB g mp cv R b ∨ W.heap.size ≤ b) : TOp Z B g W W' S' :=
  ⟨⟨⟨mp', np', cv', R', h, fun b hx => (hb b hx).elim (fun h1 => .inl (hZ b h1)) (fun h1 => .inr ⟨h1, (h.inside b hx).2⟩)⟩, fun b hx => hx.elim (fun h1 => ⟨(hlow b h1).1, Nat.lt_of_lt_of_le (hlow b h1).2 hk.size⟩) (fun h1 => ⟨Nat.le_trans hB h1.1, h1.2⟩)⟩, hk.mono hZ⟩
theorem TOp.same {W W' : World} {B g : Nat} {S : List TCall} {Z : Nat → Prop} (h : Tab W B g Z S) (hs : Since W W') (hB : B ≤ W.heap.size) : TOp Z B g W W' S := by
  obtain ⟨⟨mp, np, cv, R, h1, h2⟩, h3⟩ := h
  exact TOp.of h2 h3 hB (h1.next hs) (Keep.of_since hs) (fun b hb => .inl hb)
theorem cel_cel_ne {W : World} {g g' : Nat} {cs cs' : Array Value} {T T' : TypeId} (h : Cel W g cs T) (h' : Cel W g' cs' T') (hT : T ≠ T') : g ≠ g' := by
  rintro rfl
  unfold Cel at h h'
  rw [h] at h'
  injection h' with h'
  injection h' with _ h'
  exact hT h'
theorem own_ne_some {u : Value} {row : Option Nat} (h : u.ownBlock = none ∨ u.ownBlock ≠ row) : ∀ b, u.ownBlock = some b → row ≠ some b := fun b hb e => by
  rcases h with h | h
  · rw [h] at hb; cases hb
  · exact h (hb.trans e.symm)
theorem cntS_set {S : List TCall} {i : Nat} {c : TCall} (h : i < S.length) (hc : c.2.1.length = (S[i]).2.1.length) : cntS (S.set i c) = cntS S := by
  unfold cntS
  congr 1
  apply List.ext_getElem
  · simp
  · intro k h1 h2
    rw [List.getElem_map, List.getElem_map, List.getElem_set]
    split
    · next e => subst e; exact hc
    · rfl
/-- The blocks of one call. -/
def CallB (p : CallP) (b : Nat) : Prop := b = p.b ∨ b = p.th ∨ p.av.ownBlock = some b ∨ p.wv.ownBlock = some b
/-- The blocks of another call are none of this one's. -/
theorem callB_apart {W : World} {B : Nat} {p q : CallP} {c d : TCall} (h : CallAt W B p c) (hq : CallAt W B q d) (hpq : CallP.apart p q) {b : Nat} (hb : CallB p b) : ¬ CallB q b := by
  intro hx
  obtain ⟨a1, a2, a3, a4⟩ := hpq
  rcases hb with rfl | rfl | hb | hb <;> rcases hx with hx | hx | hx | hx
  · exact a1 hx
  · exact kidx_cel_ne hq.map h.cel hx.symm
  · exact cel_own_ne h.cel hq.ans (by decide) hx.symm
  · exact cel_own_ne h.cel hq.who (by decide) hx.symm
  · exact kidx_cel_ne h.map hq.cel hx
  · exact a2 hx
  · exact kidx_own_ne h.map hq.ans hx.symm
  · exact kidx_own_ne h.map hq.who hx.symm
  · exact cel_own_ne hq.cel h.ans (by decide) (by rw [hb, hx])
  · exact kidx_own_ne hq.map h.ans (by rw [hb, hx])
  · exact own_ne_some a3 b hb hx
  · exact own_ne_some (own_kind_apart h.ans hq.who (by decide)) b hb hx
  · exact cel_own_ne hq.cel h.who (by decide) (by rw [hb, hx])
  · exact kidx_own_ne hq.map h.who (by rw [hb, hx])
  · exact own_ne_some (own_kind_apart h.who hq.ans (by decide)) b hb hx
  · exact own_ne_some a4 b hb hx
theorem CallAt.stand {W W' : World} {B : Nat} {p : CallP} {c : TCall} (hc : CallAt W B p c) (hx : ∀ b, CallB p b → W'.heap[b]? = W.heap[b]?) : CallAt W' B p c :=
  ⟨cel_stand hc.cel (hx _ (.inl rfl)), own_stand hc.ans (fun b hb => hx b (.inr (.inr (.inl hb)))), own_stand hc.who (fun b hb => hx b (.inr (.inr (.inr hb)))), kidx_stand hc.map (hx _ (.inr (.inl rfl))), hc.bb, hc.bt, hc.fit, hc.nd, hc.ln⟩
theorem CallAt.inside {W : World} {B : Nat} {p : CallP} {c : TCall} (hc : CallAt W B p c) : ∀ b, CallB p b → B ≤ b ∧ b < W.heap.size := by
  intro b hb
  rcases hb with rfl | rfl | hb | hb
  · exact ⟨hc.bb, hc.cel.lt⟩
  · exact ⟨hc.bt, hc.map.lt⟩
  · exact hc.ans.lt b hb
  · exact hc.who.lt b hb
/-- The table's own blocks (its box, its map, its row of pointers) are none of a call's. -/
theorem TabAt.head_apart {W : World} {B g mp np : Nat} {cv : Value} {R : List CallP} {S : List TCall} (h : TabAt W B g mp np cv R S) {i : Nat} (hi : i < R.length) (hi2 : i < S.length) : ∀ b, CallB R[i] b → b ≠ g ∧ b ≠ mp ∧ cv.ownBlock ≠ some b := by
  intro b hb
  have hc := h.call i hi hi2
  rcases hb with rfl | rfl | hb | hb
  · exact ⟨cel_cel_ne hc.cel h.cel (by decide), fun e => kidx_cel_ne h.map hc.cel e.symm, fun e => cel_own_ne hc.cel h.row (by decide) e.symm⟩
  · exact ⟨kidx_cel_ne hc.map h.cel, h.mapart _ (List.getElem_mem hi), fun e => kidx_own_ne hc.map h.row e.symm⟩
  · exact ⟨fun e => cel_own_ne h.cel hc.ans (by decide) (by rw [hb, e]), fun e => kidx_own_ne h.map hc.ans (by rw [hb, e]), own_ne_some (own_kind_apart hc.ans h.row (by decide)) b hb⟩
  · exact ⟨fun e => cel_own_ne h.cel hc.who (by decide) (by rw [hb, e]), fun e => kidx_own_ne h.map hc.who (by rw [hb, e]), own_ne_some (own_kind_apart hc.who h.row (by decide)) b hb⟩
/-- One call changed, and perhaps the count. -/
theorem TabAt.change {W W4 : World} {B g mp np : Nat} {cv : Value} {R : List CallP} {S : List TCall} (h : TabAt W B g mp np cv R S) {i : Nat} (hi : i < R.length) (hi2 : i < S.length) {q : CallP} {c : TCall}
    (hk : ∀ b, b < W.heap.size → ¬ CallB R[i] b → b ≠ g → W4.heap[b]? = W.heap[b]?) (hb : q.b = R[i].b) (hth : q.th = R[i].th) (hc1 : c.1 = (S[i]).1)
    (hav : q.av.ownBlock = R[i].av.ownBlock ∨ ∀ b, q.av.ownBlock = some b → W.heap.size ≤ b) (hwv : q.wv.ownBlock = R[i].wv.ownBlock ∨ ∀ b, q.wv.ownBlock = some b → W.heap.size ≤ b)
    (hcel : Cel W4 g #[.map (some mp), cv, .int .i64 (cntS (S.set i c) : Int)] 64) (hself : CallAt W4 B q c) :
    TabAt W4 B g mp np cv (R.set i q) (S.set i c) ∧ (∀ b, TabB g mp cv (R.set i q) b → TabB g mp cv R b ∨ W.heap.size ≤ b) := by
  have hI := h.inside
  have hH := fun j (hj : j < R.length) (hj2 : j < S.length) => h.head_apart hj hj2
  have hqB : ∀ b, CallB q b → CallB R[i] b ∨ W.heap.size ≤ b := by
    intro b hx
    rcases hx with hx | hx | hx | hx
    · exact .inl (.inl (hx.trans hb))
    · exact .inl (.inr (.inl (hx.trans hth)))
    · rcases hav with ha | ha
      · exact .inl (.inr (.inr (.inl (ha.symm.trans hx))))
      · exact .inr (ha b hx)
    · rcases hwv with ha | ha
      · exact .inl (.inr (.inr (.inr (ha.symm.trans hx))))
      · exact .inr (ha b hx)
  have ap1 : ∀ {u v : Value}, apartV u v → ∀ v' : Value, (v'.ownBlock = v.ownBlock ∨ ∀ b, v'.ownBlock = some b → W.heap.size ≤ b) → (∀ b, u.ownBlock = some b → b < W.heap.size) → apartV u v' := by
    intro u v hu v' hv' hl
    unfold apartV at hu ⊢
    rcases hv' with hv' | hv'
    · rw [hv']; exact hu
    · cases hb : u.ownBlock with
      | none => exact .inl rfl
      | some b => exact .inr fun e => absurd (hv' b e.symm) (by have := hl b hb; omega)
  refine ⟨h.set hi hb hcel (kidx_stand h.map (hk mp h.map.lt (fun hx => (hH i hi hi2 mp hx).2.1 rfl) (kidx_cel_ne h.map h.cel))) (own_stand h.row (fun b hb => hk b (h.row.lt b hb).2 (fun hx => (hH i hi hi2 b hx).2.2 hb) (fun e => cel_own_ne h.cel h.row (by decide) (by rw [hb, e])))) (fun _ => hc1) hself (fun j hj hj2 hne => ?_) (fun j hj hne => ?_) (by rw [hth]; exact h.mapart _ (List.getElem_mem hi)), fun b hb => ?_⟩
  · have hc := h.call j hj hj2
    exact hc.stand fun b hb => hk b (hc.inside b hb).2 (callB_apart hc (h.call i hi hi2) (h.apart_of hj hi hne) hb) (hH j hj hj2 b hb).1
  · obtain ⟨a1, a2, a3, a4⟩ := h.apart_of hj hi hne
    have hc := h.call j hj (by rw [← h.len]; exact hj)
    exact ⟨by rw [hb]; exact a1, by rw [hth]; exact a2, ap1 a3 _ hav (fun b hb => (hc.ans.lt b hb).2), ap1 a4 _ hwv (fun b hb => (hc.who.lt b hb).2)⟩
  · rcases hb with hx | hx | hx | ⟨p, hp, hx⟩
    · exact .inl (.inl hx)
    · exact .inl (.inr (.inl hx))
    · exact .inl (.inr (.inr (.inl hx)))
    · rcases List.mem_or_eq_of_mem_set hp with h1 | h1
      · exact .inl (.inr (.inr (.inr ⟨p, h1, hx⟩)))
      · rw [h1] at hx
        rcases hqB b hx with h2 | h2
        · exact .inl (.inr (.inr (.inr ⟨_, List.getElem_mem hi, h2⟩)))
        · exact .inr h2
/-- One call more. -/
theorem TabAt.more {W W4 : World} {B g mp np np' : Nat} {cv cv' : Value} {R : List CallP} {S : List TCall} (h : TabAt W B g mp np cv R S) {q : CallP} {c : TCall}
    (hk : ∀ b, b < W.heap.size → b ≠ g → b ≠ mp → cv.ownBlock ≠ some b → W4.heap[b]? = W.heap[b]?) (hq : ∀ b, CallB q b → W.heap.size ≤ b) (hcv : cv'.ownBlock = cv.ownBlock ∨ ∀ b, cv'.ownBlock = some b → W.heap.size ≤ b)
    (hcel : Cel W4 g #[.map (some mp), cv', .int .i64 (cntS S : Int)] 64) (hc0 : c.2.1 = []) (hmap : AIdx W4 mp np' ((S.map fun c => c.1) ++ [c.1])) (hrow : W4.ownsRow B 66 1 cv' (R.length + 1) (R.flatMap ptrV ++ [.pointer (some ⟨q.b, 0, none⟩)]))
    (hself : CallAt W4 B q c) (hnew : c.1 ∉ S.map fun c => c.1) (hnp : np' ≤ np + 1) (hl : S.length < 1000) :
    TabAt W4 B g mp np' cv' (R ++ [q]) (S ++ [c]) ∧ (∀ b, TabB g mp cv' (R ++ [q]) b → TabB g mp cv R b ∨ W.heap.size ≤ b) := by
  have hI := h.inside
  have hlen := h.len
  have hmapp : (S ++ [c]).map (fun c => c.1) = (S.map fun c => c.1) ++ [c.1] := by rw [List.map_append]; rfl
  have hcnt : cntS (S ++ [c]) = cntS S := by
    unfold cntS
    rw [List.map_append, List.sum_append]
    simp [hc0]
  have hmp : mp < W.heap.size := h.map.lt
  refine ⟨⟨by rw [hcnt]; exact hcel, by rw [hmapp]; exact hmap, ?_, by rw [List.length_append, List.length_append, hlen]; rfl, fun i h1 h2 => ?_, ?_, fun p hp => ?_, h.bg, h.bm, ?_, ?_⟩, fun b hb => ?_⟩
  · rw [List.length_append, List.flatMap_append]
    exact hrow
  · rw [List.length_append] at h1 h2
    by_cases hi : i < R.length
    · have hi2 : i < S.length := by rw [← hlen]; exact hi
      rw [List.getElem_append_left hi, List.getElem_append_left hi2]
      have hc := h.call i hi hi2
      refine hc.stand fun b hb => ?_
      obtain ⟨x1, x2, x3⟩ := h.head_apart hi hi2 b hb
      exact hk b (hc.inside b hb).2 x1 x2 x3
    · have e : i = R.length := by simp at h1; omega
      subst e
      have e2 : (S ++ [c])[R.length] = c := by
        have : ∀ (k : Nat) (hk : k < (S ++ [c]).length), k = S.length → (S ++ [c])[k] = c := by
          intro k hk e; subst e; simp
        exact this _ _ hlen
      rw [e2]
      simpa using hself
  · rw [List.pairwise_append]
    refine ⟨h.apart, List.pairwise_singleton _ _, fun p hp p' hp' => ?_⟩
    have e : p' = q := by simpa using hp'
    subst e
    obtain ⟨i, hi, rfl⟩ := List.getElem_of_mem hp
    have hc := h.call i hi (by rw [← hlen]; exact hi)
    have lt : ∀ b, CallB R[i] b → ¬ CallB p' b := fun b hb hx => by have := (hc.inside b hb).2; have := hq b hx; omega
    refine ⟨fun e => lt _ (.inl rfl) (.inl e), fun e => lt _ (.inr (.inl rfl)) (.inr (.inl e)), ?_, ?_⟩
    · unfold apartV
      cases hb : R[i].av.ownBlock with
      | none => exact .inl rfl
      | some b => exact .inr fun e => lt b (.inr (.inr (.inl hb))) (.inr (.inr (.inl e.symm)))
    · unfold apartV
      cases hb : R[i].wv.ownBlock with
      | none => exact .inl rfl
      | some b => exact .inr fun e => lt b (.inr (.inr (.inr hb))) (.inr (.inr (.inr e.symm)))
  · rcases List.mem_append.1 hp with hp | hp
    · exact h.mapart p hp
    · have e : p = q := by simpa using hp
      subst e
      intro e
      have := hq _ (.inr (.inl rfl))
      omega
  · rw [hmapp, List.nodup_append]
    refine ⟨h.nd, by simp, fun a ha b hb => ?_⟩
    have e : b = c.1 := by simpa using hb
    subst e
    exact fun e => hnew (e ▸ ha)
  · have := h.ln
    rw [List.length_append]
    simp only [List.length_cons, List.length_nil]
    omega
  · rcases hb with hb | hb | hb | ⟨p, hp, hb⟩
    · exact .inl (.inl hb)
    · exact .inl (.inr (.inl hb))
    · rcases hcv with hx | hx
      · exact .inl (.inr (.inr (.inl (hx.symm.trans hb))))
      · exact .inr (hx b hb)
    · rcases List.mem_append.1 hp with h1 | h1
      · exact .inl (.inr (.inr (.inr ⟨p, h1, hb⟩)))
      · have e : p = q := by simpa using h1
        subst e
        exact .inr (hq b hb)
end Go.Proofs.YtbgdljcgbhhfdaaDoor
