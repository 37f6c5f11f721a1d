/- Reference 18's tables in memory; rows of rows of any kind. Reference 18: New, is, Find. Reference 18: Call, Count, Waiters, Answers. Reference 18: Wait. -/
import Derived.Test.YtbgdljcgbhhfdaaGreatDoorTabP
namespace Go.Proofs.YtbgdljcgbhhfdaaGreatDoor
open Go.RowKit Go.Maps Go.WideMaps

/-- A row of the call's own of rows of its own. -/
def VecAt {α : Type} (e1 e2 : TypeId) (K : Nat) (f : α → List Value) (W : World) (B : Nat) (v : Value) (L : List (List α × Value)) : Prop := Nest W B e1 1 (fun (_ : List α) u => [u]) e2 K (fun l => l.length) (fun l => l.flatMap f) v L
section
variable {α : Type} {e1 e2 : TypeId} {K : Nat} {f : α → List Value} {W W' : World} {B : Nat} {v : Value} {L : List (List α × Value)}
theorem VecAt.next (h : VecAt e1 e2 K f W B v L) (hs : Since W W') : VecAt e1 e2 K f W' B v L := Nest.next h hs
theorem VecAt.nil : VecAt e1 e2 K f W B (.slice none 0 0) [] := Nest.nil
theorem VecAt.at (h : VecAt e1 e2 K f W B v L) {i : Nat} (hi : i < L.length) : ∃ ob cap cur, v = .slice (some ⟨ob, 0, none⟩) L.length cap ∧ B ≤ ob ∧ Cel W ob cur e1 ∧ cur[i]? = some (L[i]).2 := by
  obtain ⟨h1, h2⟩ := Nest.row h
  rcases h2 with ⟨_, h3⟩ | ⟨g, cap, cur, hv, hb, hg, h3, h4, h5, h6⟩
  · omega
  · refine ⟨g, cap, cur, hv, hb, hg, ?_⟩
    have h7 := congrArg (fun l => l[i]?) h6
    simp only [Nat.mul_one] at h7
    rw [List.getElem?_take, if_pos hi, Array.getElem?_toList] at h7
    rw [h7]
    have := flat_at (f := fun p : List α × Value => [p.2]) (K := 1) (fun _ => rfl) L i hi 0 (by omega)
    rw [Nat.mul_one, Nat.add_zero] at this
    exact this
theorem VecAt.inner (h : VecAt e1 e2 K f W B v L) {i : Nat} (hi : i < L.length) : W.ownsRow B e2 K (L[i]).2 (L[i]).1.length ((L[i]).1.flatMap f) := Nest.ins h _ (List.getElem_mem hi)
theorem vec_set {i : Nat} {q : List α × Value} : (L.set i q).flatMap (fun p => [p.2]) = (L.flatMap fun p => [p.2]).set i q.2 := by
  induction L generalizing i with
  | nil => rfl
  | cons p r ih =>
    cases i with
    | zero => rfl
    | succ k => rw [List.set_cons_succ, List.flatMap_cons, List.flatMap_cons, ih]; rfl
/-- One inner row grown and put back. -/
theorem VecAt.put {Wa W3 : World} (he : e1 ≠ e2) (h : VecAt e1 e2 K f W B v L) (hs : Since W Wa) {i : Nat} (hi : i < L.length) {v' : Value} {x : α} {ob : Nat} (hv : v.ownBlock = some ob) (hg : Wa.grownBy W3 (L[i]).2.ownBlock)
    (hown : W3.ownsRow B e2 K v' ((L[i]).1.length + 1) ((L[i]).1.flatMap f ++ f x)) (hat : v'.ownBlock = (L[i]).2.ownBlock ∨ v'.ownBlock = some Wa.heap.size) : VecAt e1 e2 K f (W3.setCell ⟨ob, i, none⟩ v') B v (L.set i ((L[i]).1 ++ [x], v')) := by
  have hA := VecAt.next h hs
  have hIn := hA.inner hi
  have hrow3 : W3.ownsRow B e1 1 v L.length (L.flatMap fun p => [p.2]) := (Nest.row hA).kept hg (own_kind_apart (Nest.row hA) hIn he)
  have hcelO : ∃ cur, Cel W3 ob cur e1 := by
    rcases hrow3.2 with ⟨rfl, _⟩ | ⟨g, cap, cur, rfl, _, h2, _⟩
    · cases hv
    · obtain rfl : g = ob := by injection hv
      exact ⟨cur, h2⟩
  obtain ⟨cur, hC⟩ := hcelO
  have hap : ∀ j (hj : j < L.length), j ≠ i → apartV (L[j]).2 (L[i]).2 := by
    intro j hj hne
    rcases Nat.lt_or_gt_of_ne hne with hl | hl
    · exact List.pairwise_iff_getElem.1 (Nest.apart h) j i hj hi hl
    · exact (List.pairwise_iff_getElem.1 (Nest.apart h) i j hi hj hl).symm
  have hap2 : ∀ j (hj : j < L.length), j ≠ i → apartV (L[j]).2 v' := by
    intro j hj hne
    rcases hat with e | e
    · have := hap j hj hne
      unfold apartV at this ⊢
      rw [e]; exact this
    · unfold apartV
      cases hb : (L[j]).2.ownBlock with
      | none => exact .inl rfl
      | some b =>
        refine .inr fun e2 => ?_
        rw [e] at e2
        injection e2 with e2
        have := ((hA.inner hj).lt b hb).2
        omega
  refine ⟨?_, fun p hp => ?_, ?_⟩
  · rw [List.length_set, vec_set]
    exact own_set1 hrow3 hv hi v'
  · obtain ⟨j, hj, rfl⟩ := List.getElem_of_mem hp
    rw [List.length_set] at hj
    rw [List.getElem_set]
    by_cases e : i = j
    · rw [if_pos e]
      show World.ownsRow _ B e2 K v' ((L[i]).1 ++ [x]).length (((L[i]).1 ++ [x]).flatMap f)
      rw [List.length_append, List.flatMap_append]
      have h9 := own_setCell (u := v') (j := i) hown hC (fun e => he e.symm)
      simpa using h9
    · rw [if_neg e]
      exact own_setCell ((hA.inner hj).kept hg (hap j hj (fun e2 => e e2.symm))) hC (fun e => he e.symm)
  · rw [List.pairwise_iff_getElem]
    intro a b ha hb hab
    rw [List.length_set] at ha hb
    rw [List.getElem_set, List.getElem_set]
    by_cases h1 : i = a
    · rw [if_pos h1, if_neg (by omega)]
      exact (hap2 b hb (by omega)).symm
    · rw [if_neg h1]
      by_cases h2 : i = b
      · rw [if_pos h2]; exact hap2 a ha (fun e => h1 e.symm)
      · rw [if_neg h2]; exact List.pairwise_iff_getElem.1 (Nest.apart h) a b ha hb hab
/-- One empty row more. -/
theorem VecAt.snoc {W3 : World} (he : e1 ≠ e2) (h : VecAt e1 e2 K f W B v L) {v' : Value} (hg : W.grownBy W3 v.ownBlock) (hown : W3.ownsRow B e1 1 v' (L.length + 1) ((L.flatMap fun p => [p.2]) ++ [nilR])) : VecAt e1 e2 K f W3 B v' (L ++ [([], nilR)]) := by
  refine ⟨?_, fun p hp => ?_, ?_⟩
  · rw [List.length_append, List.flatMap_append]
    exact hown
  · rcases List.mem_append.1 hp with hp | hp
    · exact (Nest.ins h p hp).kept hg (own_kind_apart (Nest.ins h p hp) (Nest.row h) (fun e => he e.symm))
    · obtain rfl := List.mem_singleton.1 hp
      exact World.ownsRow_nil _ _ _ _
  · rw [List.pairwise_append]
    refine ⟨Nest.apart h, List.pairwise_singleton _ _, fun p hp q hq => ?_⟩
    obtain rfl := List.mem_singleton.1 hq
    unfold apartV
    cases hb : p.2.ownBlock with
    | none => exact .inl rfl
    | some b => exact .inr (by rintro ⟨⟩)
/-- The blocks of rows of rows. -/
def VecB (v : Value) (L : List (List α × Value)) (b : Nat) : Prop := v.ownBlock = some b ∨ ∃ p ∈ L, p.2.ownBlock = some b
theorem VecAt.stand (h : VecAt e1 e2 K f W B v L) (hk : ∀ b, VecB v L b → W'.heap[b]? = W.heap[b]?) : VecAt e1 e2 K f W' B v L :=
  ⟨own_stand (Nest.row h) (fun b hb => hk b (.inl hb)), fun p hp => own_stand (Nest.ins h p hp) (fun b hb => hk b (.inr ⟨p, hp, hb⟩)), Nest.apart h⟩
theorem VecAt.inside (h : VecAt e1 e2 K f W B v L) : ∀ b, VecB v L b → B ≤ b ∧ b < W.heap.size := by
  rintro b (hb | ⟨p, hp, hb⟩)
  · exact (Nest.row h).lt b hb
  · exact (Nest.ins h p hp).lt b hb
theorem VecAt.len (h : VecAt e1 e2 K f W B v L) : ∃ a c, v = .slice a L.length c := own_slice (Nest.row h)
end
abbrev GotAt := VecAt (α := Atm) 48 33 11 atmL
abbrev WhoAt := VecAt (α := Int) 54 3 1 intV1
/-- The reference's tables in memory. -/
structure RefAt (W : World) (D r : Nat) (av gv wv : Value) (S : List TCall) (GL : List (List Atm × Value)) (WL : List (List Int × Value)) : Prop where
  cel : Cel W r #[av, gv, wv] 52
  atoms : W.ownsRow D 33 11 av S.length ((S.map fun c => c.1).flatMap atmL)
  got : GotAt W D gv GL
  who : WhoAt W D wv WL
  gm : GL.map Prod.fst = S.map (fun c => c.2.1)
  wm : WL.map Prod.fst = S.map (fun c => c.2.2)
  gapart : ∀ p ∈ GL, apartV p.2 av
  low : D ≤ r
def RefB (r : Nat) (av gv wv : Value) (GL : List (List Atm × Value)) (WL : List (List Int × Value)) (b : Nat) : Prop := b = r ∨ av.ownBlock = some b ∨ VecB gv GL b ∨ VecB wv WL b
section
variable {W W' : World} {D r : Nat} {av gv wv : Value} {S : List TCall} {GL : List (List Atm × Value)} {WL : List (List Int × Value)}
theorem RefAt.stand (h : RefAt W D r av gv wv S GL WL) (hk : ∀ b, RefB r av gv wv GL WL b → W'.heap[b]? = W.heap[b]?) : RefAt W' D r av gv wv S GL WL :=
  ⟨cel_stand h.cel (hk r (.inl rfl)), own_stand h.atoms (fun b hb => hk b (.inr (.inl hb))), h.got.stand (fun b hb => hk b (.inr (.inr (.inl hb)))), h.who.stand (fun b hb => hk b (.inr (.inr (.inr hb)))), h.gm, h.wm, h.gapart, h.low⟩
theorem RefAt.inside (h : RefAt W D r av gv wv S GL WL) : ∀ b, RefB r av gv wv GL WL b → D ≤ b ∧ b < W.heap.size := by
  rintro b (rfl | hb | hb | hb)
  · exact ⟨h.low, h.cel.lt⟩
  · exact h.atoms.lt b hb
  · exact h.got.inside b hb
  · exact h.who.inside b hb
theorem RefAt.next (h : RefAt W D r av gv wv S GL WL) (hs : Since W W') : RefAt W' D r av gv wv S GL WL := h.stand fun b hb => hs.block b (h.inside b hb).2
theorem RefAt.glen (h : RefAt W D r av gv wv S GL WL) : GL.length = S.length := by
  have := congrArg List.length h.gm
  rwa [List.length_map, List.length_map] at this
theorem RefAt.wlen (h : RefAt W D r av gv wv S GL WL) : WL.length = S.length := by
  have := congrArg List.length h.wm
  rwa [List.length_map, List.length_map] at this
end
/-- The reference's tables, whose blocks are among Z. -/
structure Rtb (W : World) (D r : Nat) (Z : Nat → Prop) (S : List TCall) : Prop where
  ex : ∃ av gv wv GL WL, RefAt W D r av gv wv S GL WL ∧ ∀ b, RefB r av gv wv GL WL b → Z b
  low : ∀ b, Z b → D ≤ b ∧ b < W.heap.size
section
variable {W W' : World} {D r : Nat} {Z : Nat → Prop} {S : List TCall}
theorem Rtb.stand (h : Rtb W D r Z S) (hs : W.heap.size ≤ W'.heap.size) (hk : ∀ b, Z b → W'.heap[b]? = W.heap[b]?) : Rtb W' D r Z S := by
  obtain ⟨⟨av, gv, wv, GL, WL, h1, h2⟩, h3⟩ := h
  exact ⟨⟨av, gv, wv, GL, WL, h1.stand (fun b hb => hk b (h2 b hb)), h2⟩, fun b hb => ⟨(h3 b hb).1, Nat.lt_of_lt_of_le (h3 b hb).2 hs⟩⟩
theorem Rtb.next (h : Rtb W D r Z S) (hs : Since W W') : Rtb W' D r Z S := h.stand hs.size fun b hb => hs.block b (h.low b hb).2
/-- Kept by what changes other blocks alone. -/
theorem Rtb.keep {Z' : Nat → Prop} (h : Rtb W D r Z S) (hk : Keep Z' W W') (hz : ∀ b, Z b → ¬ Z' b) : Rtb W' D r Z S := h.stand hk.size fun b hb => hk.block b (h.low b hb).2 (hz b hb)
theorem Rtb.le (h : Rtb W D r Z S) : D ≤ W.heap.size := by
  obtain ⟨⟨av, gv, wv, GL, WL, h1, _⟩, _⟩ := h
  have := h1.low
  have := h1.cel.lt
  omega
end
/-- What a call of the reference leaves. -/
structure ROp (Z : Nat → Prop) (D r : Nat) (w w' : World) (S' : List TCall) : Prop where
  tab : Rtb w' D r (Zx Z w w') S'
  keep : Keep Z w w'
theorem ROp.of {W W' : World} {D r : Nat} {av gv wv av' gv' wv' : Value} {GL GL' : List (List Atm × Value)} {WL WL' : List (List Int × Value)} {S' : List TCall} {Z : Nat → Prop} (hZ : ∀ b, RefB r av gv wv GL WL b → Z b) (hlow : ∀ b, Z b → D ≤ b ∧ b < W.heap.size) (hD : D ≤ W.heap.size) (h : RefAt W' D r av' gv' wv' S' GL' WL') (hk : Keep (RefB r av gv wv GL WL) W W') (hb : ∀ b, RefB r av' gv' wv' GL' WL' b → RefB r av gv wv GL WL b ∨ W.heap.size ≤ b) : ROp Z D r W W' S' :=
  ⟨⟨⟨av', gv', wv', GL', WL', h, fun b hx => (hb b hx).elim (fun h1 => .inl (hZ b h1)) (fun h1 => .inr ⟨h1, (h.inside b hx).2⟩)⟩, fun b hx => hx.elim (fun h1 => ⟨(hlow b h1).1, Nat.lt_of_lt_of_le (hlow b h1).2 hk.size⟩) (fun h1 => ⟨Nat.le_trans hD h1.1, h1.2⟩)⟩, hk.mono hZ⟩
theorem ROp.same {W W' : World} {D r : Nat} {S : List TCall} {Z : Nat → Prop} (h : Rtb W D r Z S) (hs : Since W W') : ROp Z D r W W' S := by
  have hD := h.le
  obtain ⟨⟨av, gv, wv, GL, WL, h1, h2⟩, h3⟩ := h
  exact ROp.of h2 h3 hD (h1.next hs) (Keep.of_since hs) (fun b hb => .inl hb)
end Go.Proofs.YtbgdljcgbhhfdaaGreatDoor

namespace Go.Proofs.YtbgdljcgbhhfdaaGreatDoor
open Go.RowKit Go.Maps Go.WideMaps
attribute [local go_sem ↓] run_atomEq
attribute [local go_sem] eqA_self

set_option maxHeartbeats 2000000 in
theorem rnew18 (w : World) : Calls Tryz.prog 7 #[] w fun e w' => ∃ r, e = .returned (.pointer (some ⟨r, 0, none⟩)) ∧ (∃ Z, Rtb w' w.heap.size r Z []) ∧ Since w w' := by
  have hC : Cel (w.alloc (.cells #[.slice none 0 0, .slice none 0 0, .slice none 0 0] 52)) w.heap.size #[.slice none 0 0, .slice none 0 0, .slice none 0 0] 52 := heap_alloc_new w _
  have HR : Hid (RefAt (w.alloc (.cells #[.slice none 0 0, .slice none 0 0, .slice none 0 0] 52)) w.heap.size w.heap.size (.slice none 0 0) (.slice none 0 0) (.slice none 0 0) [] [] []) :=
    ⟨hC, World.ownsRow_nil _ _ _ _, VecAt.nil, VecAt.nil, rfl, rfl, (fun p hp => by cases hp), Nat.le_refl _⟩
  clear hC
  go_enter Tryz.func7, Tryz.ntmps7
  go_wp2_with fail
  go_ret
  exact ⟨_, rfl, ⟨fun b => w.heap.size ≤ b ∧ b < (w.alloc (.cells #[.slice none 0 0, .slice none 0 0, .slice none 0 0] 52)).heap.size, ⟨_, _, _, _, _, HR.out, HR.out.inside⟩, fun b hb => hb⟩, (Since.refl _).alloc _⟩
set_option maxHeartbeats 2000000 in
theorem ris_yes {D r : Nat} {av gv wv : Value} {S : List TCall} {GL : List (List Atm × Value)} {WL : List (List Int × Value)} (i : Nat) (w : World) (h : RefAt w D r av gv wv S GL WL) (hi : i < S.length) :
    Calls Tryz.prog 37 #[.pointer (some ⟨r, 0, none⟩), .int .i64 (i : Int)] w fun e w' => e = .returned (.bool true) ∧ Since w w' := by
  obtain ⟨a, c, rfl⟩ := own_slice h.atoms
  have g0 : w.cell? ⟨r, 0, none⟩ = some (.slice a S.length c) := h.cel.cell 0
  have h1 : (i : Int) < (S.length : Int) := by omega
  have h2 : (0 : Int) ≤ (i : Int) := by omega
  clear h hi
  go_enter Tryz.func37, Tryz.ntmps37
  go_wp2_with fail
  go_ret
  exact ⟨rfl, Since.refl _⟩
set_option maxHeartbeats 2000000 in
theorem ris_no {D r : Nat} {av gv wv : Value} {S : List TCall} {GL : List (List Atm × Value)} {WL : List (List Int × Value)} (i : Int) (w : World) (h : RefAt w D r av gv wv S GL WL) (hi : i < 0 ∨ (S.length : Int) ≤ i) :
    Calls Tryz.prog 37 #[.pointer (some ⟨r, 0, none⟩), .int .i64 i] w fun e w' => e = .returned (.bool false) ∧ Since w w' := by
  obtain ⟨a, c, rfl⟩ := own_slice h.atoms
  have g0 : w.cell? ⟨r, 0, none⟩ = some (.slice a S.length c) := h.cel.cell 0
  clear h
  by_cases h0 : i < 0
  · have h2 : ¬ (0 : Int) ≤ i := by omega
    go_enter Tryz.func37, Tryz.ntmps37
    go_wp2_with fail
    go_ret
    exact ⟨rfl, Since.refl _⟩
  · have h2 : (0 : Int) ≤ i := by omega
    have h3 : ¬ i < (S.length : Int) := by omega
    clear hi
    go_enter Tryz.func37, Tryz.ntmps37
    go_wp2_with fail
    go_ret
    exact ⟨rfl, Since.refl _⟩
set_option maxHeartbeats 8000000 in
set_option maxRecDepth 100000 in
theorem rfind18 {D r : Nat} {av gv wv : Value} {S : List TCall} {GL : List (List Atm × Value)} {WL : List (List Int × Value)} (a_s a_p : List UInt8) (a_n : Int) (a_v0 a_v1 a_v2 a_v3 : Bool) (a_l0 a_l1 a_l2 a_l3 : List UInt8) (w : World) (h : RefAt w D r av gv wv S GL WL) (hl : S.length < 1000) :
    Calls Tryz.prog 16 #[.pointer (some ⟨r, 0, none⟩), .agg #[.string ⟨a_s.toArray⟩, .string ⟨a_p.toArray⟩, .int .i64 a_n, .bool a_v0, .string ⟨a_l0.toArray⟩, .bool a_v1, .string ⟨a_l1.toArray⟩, .bool a_v2, .string ⟨a_l2.toArray⟩, .bool a_v3, .string ⟨a_l3.toArray⟩]] w fun e w' => e = .returned (.tuple #[.int .i64 (posV (posF (S.map fun c => c.1) (canA ((a_s, a_p, a_n, (a_v0, a_l0), (a_v1, a_l1), (a_v2, a_l2), (a_v3, a_l3)) : Atm)) 0)), .bool (posF (S.map fun c => c.1) (canA ((a_s, a_p, a_n, (a_v0, a_l0), (a_v1, a_l1), (a_v2, a_l2), (a_v3, a_l3)) : Atm)) 0).isSome]) ∧ Since w w' := by
  have hS1 : Since w (w.alloc (.cells #[.string ⟨a_s.toArray⟩, .string ⟨a_p.toArray⟩, .int .i64 a_n, .bool a_v0, .string ⟨a_l0.toArray⟩, .bool a_v1, .string ⟨a_l1.toArray⟩, .bool a_v2, .string ⟨a_l2.toArray⟩, .bool a_v3, .string ⟨a_l3.toArray⟩] 33)) := (Since.refl w).alloc _
  have K1 : Hid (Cel (w.alloc (.cells #[.string ⟨a_s.toArray⟩, .string ⟨a_p.toArray⟩, .int .i64 a_n, .bool a_v0, .string ⟨a_l0.toArray⟩, .bool a_v1, .string ⟨a_l1.toArray⟩, .bool a_v2, .string ⟨a_l2.toArray⟩, .bool a_v3, .string ⟨a_l3.toArray⟩] 33)) w.heap.size #[.string ⟨a_s.toArray⟩, .string ⟨a_p.toArray⟩, .int .i64 a_n, .bool a_v0, .string ⟨a_l0.toArray⟩, .bool a_v1, .string ⟨a_l1.toArray⟩, .bool a_v2, .string ⟨a_l2.toArray⟩, .bool a_v3, .string ⟨a_l3.toArray⟩] 33) := heap_alloc_new w _
  have aB : Box (w.alloc (.cells #[.string ⟨a_s.toArray⟩, .string ⟨a_p.toArray⟩, .int .i64 a_n, .bool a_v0, .string ⟨a_l0.toArray⟩, .bool a_v1, .string ⟨a_l1.toArray⟩, .bool a_v2, .string ⟨a_l2.toArray⟩, .bool a_v3, .string ⟨a_l3.toArray⟩] 33)) w.heap.size ((a_s, a_p, a_n, (a_v0, a_l0), (a_v1, a_l1), (a_v2, a_l2), (a_v3, a_l3)) : Atm) := box_new w ((a_s, a_p, a_n, (a_v0, a_l0), (a_v1, a_l1), (a_v2, a_l2), (a_v3, a_l3)) : Atm) _
  have HCA := Lib.hid (fun W => rcanon_any a_s a_p a_n a_v0 a_v1 a_v2 a_v3 a_l0 a_l1 a_l2 a_l3 W)
  obtain ⟨c, hc0⟩ : ∃ c, Hid (c = canA ((a_s, a_p, a_n, (a_v0, a_l0), (a_v1, a_l1), (a_v2, a_l2), (a_v3, a_l3)) : Atm)) := ⟨_, rfl⟩
  rw [← hc0.out] at HCA ⊢
  obtain ⟨c_s, c_p, c_n, ⟨c_v0, c_l0⟩, ⟨c_v1, c_l1⟩, ⟨c_v2, c_l2⟩, ⟨c_v3, c_l3⟩⟩ := c
  replace HCA : Hid (∀ W, Calls Tryz.prog 34 #[.agg #[.string ⟨a_s.toArray⟩, .string ⟨a_p.toArray⟩, .int .i64 a_n, .bool a_v0, .string ⟨a_l0.toArray⟩, .bool a_v1, .string ⟨a_l1.toArray⟩, .bool a_v2, .string ⟨a_l2.toArray⟩, .bool a_v3, .string ⟨a_l3.toArray⟩]] W fun e w' => e = .returned (.agg #[.string ⟨c_s.toArray⟩, .string ⟨c_p.toArray⟩, .int .i64 c_n, .bool c_v0, .string ⟨c_l0.toArray⟩, .bool c_v1, .string ⟨c_l1.toArray⟩, .bool c_v2, .string ⟨c_l2.toArray⟩, .bool c_v3, .string ⟨c_l3.toArray⟩]) ∧ Since W w') := HCA
  obtain ⟨P, hP⟩ : ∃ P, Hid (P = S.map fun c => c.1) := ⟨_, rfl⟩
  have hPl : P.length = S.length := by rw [hP.out, List.length_map]
  have hat := h.atoms
  rw [← hP.out, ← hPl] at hat
  rw [← hPl] at hl
  rw [← hP.out]
  obtain ⟨sa, sc, rfl⟩ : ∃ a c, av = .slice a P.length c := own_slice hat
  have HAR := Lib.hid (own_arow1 hat)
  have rA0 : At w r 0 #[.slice sa P.length sc] := At.one (h.cel.cell 0)
  have r0 : (w.alloc (.cells #[.string ⟨a_s.toArray⟩, .string ⟨a_p.toArray⟩, .int .i64 a_n, .bool a_v0, .string ⟨a_l0.toArray⟩, .bool a_v1, .string ⟨a_l1.toArray⟩, .bool a_v2, .string ⟨a_l2.toArray⟩, .bool a_v3, .string ⟨a_l3.toArray⟩] 33)).cell? ⟨r, 0, none⟩ = some (.slice sa P.length sc) := hS1.cell (h.cel.cell 0)
  obtain ⟨a_c0, a_c1, a_c2, a_c3, a_c4, a_c5, a_c6, a_c7, a_c8, a_c9, a_c10⟩ := aB.all
  clear h hat hPl hP hc0 aB
  go_enter Tryz.func16, Tryz.ntmps16
  go_wp2_with fail
  refine (HCA.out _).mono ?_
  rintro e w2 ⟨rfl, hb⟩
  have hS2 := hS1.trans hb
  have K2 := Lib.hid (K1.out.next hb)
  have hone : Hid (((#[.string ⟨c_s.toArray⟩, .string ⟨c_p.toArray⟩, .int .i64 c_n, .bool c_v0, .string ⟨c_l0.toArray⟩, .bool c_v1, .string ⟨c_l1.toArray⟩, .bool c_v2, .string ⟨c_l2.toArray⟩, .bool c_v3, .string ⟨c_l3.toArray⟩] : Array Value).all (·.oneCell')) = true) := by show _ = _; simp [Value.oneCell']
  have hC3 : Cel (w2.setRow w.heap.size #[.string ⟨c_s.toArray⟩, .string ⟨c_p.toArray⟩, .int .i64 c_n, .bool c_v0, .string ⟨c_l0.toArray⟩, .bool c_v1, .string ⟨c_l1.toArray⟩, .bool c_v2, .string ⟨c_l2.toArray⟩, .bool c_v3, .string ⟨c_l3.toArray⟩]) w.heap.size #[.string ⟨c_s.toArray⟩, .string ⟨c_p.toArray⟩, .int .i64 c_n, .bool c_v0, .string ⟨c_l0.toArray⟩, .bool c_v1, .string ⟨c_l1.toArray⟩, .bool c_v2, .string ⟨c_l2.toArray⟩, .bool c_v3, .string ⟨c_l3.toArray⟩] 33 := K2.out.row _
  have hS3 : Since w (w2.setRow w.heap.size #[.string ⟨c_s.toArray⟩, .string ⟨c_p.toArray⟩, .int .i64 c_n, .bool c_v0, .string ⟨c_l0.toArray⟩, .bool c_v1, .string ⟨c_l1.toArray⟩, .bool c_v2, .string ⟨c_l2.toArray⟩, .bool c_v3, .string ⟨c_l3.toArray⟩]) := since_setRow hS2 (Nat.le_refl _) _
  clear HCA hb K1 r0 a_c0 a_c1 a_c2 a_c3 a_c4 a_c5 a_c6 a_c7 a_c8 a_c9 a_c10
  go_wp2_with (refine wpList_store_row rfl 33 (.tmp 3) (.tmp 8) rfl w.heap.size #[.string ⟨c_s.toArray⟩, .string ⟨c_p.toArray⟩, .int .i64 c_n, .bool c_v0, .string ⟨c_l0.toArray⟩, .bool c_v1, .string ⟨c_l1.toArray⟩, .bool c_v2, .string ⟨c_l2.toArray⟩, .bool c_v3, .string ⟨c_l3.toArray⟩] rfl rfl 33 #[.string ⟨a_s.toArray⟩, .string ⟨a_p.toArray⟩, .int .i64 a_n, .bool a_v0, .string ⟨a_l0.toArray⟩, .bool a_v1, .string ⟨a_l1.toArray⟩, .bool a_v2, .string ⟨a_l2.toArray⟩, .bool a_v3, .string ⟨a_l3.toArray⟩] K2.out ainfoC rfl hone.out ?_; generalize hw3 : w2.setRow w.heap.size #[.string ⟨c_s.toArray⟩, .string ⟨c_p.toArray⟩, .int .i64 c_n, .bool c_v0, .string ⟨c_l0.toArray⟩, .bool c_v1, .string ⟨c_l1.toArray⟩, .bool c_v2, .string ⟨c_l2.toArray⟩, .bool c_v3, .string ⟨c_l3.toArray⟩] = w3 at *; clear hw3)
  clear K2 hone hS2
  go_loopw [6] (fun i wr => ∃ k : Nat, k ≤ P.length ∧ i = .int .i64 (k : Int) ∧ Since w3 wr ∧ Hid (posF (P.take k) ((c_s, c_p, c_n, (c_v0, c_l0), (c_v1, c_l1), (c_v2, c_l2), (c_v3, c_l3)) : Atm) 0 = none)) (fun i _ => P.length - (intOf i).toNat)
  case atStart => exact ⟨0, Nat.zero_le _, rfl, Since.refl _, rfl⟩
  case round =>
  rename World => w4
  obtain ⟨k, hk, rfl, hS4, hno⟩ := hrel
  have hS5 := hS3.trans hS4
  have r4 : w4.cell? ⟨r, 0, none⟩ = some (.slice sa P.length sc) := (rA0.next hS5) 0 _ rfl
  by_cases hlt : k < P.length
  · have hlt2 : (k : Int) < (P.length : Int) := by omega
    have hlt0 : (0 : Int) ≤ (k : Int) := by omega
    obtain ⟨b, ob, e1, hc, hat⟩ := HAR.out.get (by omega)
    have d1 := hat k hlt
    obtain ⟨⟨x_s, x_p, x_n, ⟨x_v0, x_l0⟩, ⟨x_v1, x_l1⟩, ⟨x_v2, x_l2⟩, ⟨x_v3, x_l3⟩⟩, hx⟩ : ∃ x, Hid (x = P[k]) := ⟨P[k], rfl⟩
    rw [← hx.out] at d1
    have xA0 : At w b (ob + k * 11) #[.string ⟨x_s.toArray⟩, .string ⟨x_p.toArray⟩, .int .i64 x_n, .bool x_v0, .string ⟨x_l0.toArray⟩, .bool x_v1, .string ⟨x_l1.toArray⟩, .bool x_v2, .string ⟨x_l2.toArray⟩, .bool x_v3, .string ⟨x_l3.toArray⟩] := d1
    subst e1
    go_wp2_with fail
    have xA := xA0.next hS5
    have rA := rA0.next hS5
    have cA := (hC3.next hS4).at
    clear hat d1 r4
    cases hq9 : eqA ((x_s, x_p, x_n, (x_v0, x_l0), (x_v1, x_l1), (x_v2, x_l2), (x_v3, x_l3)) : Atm) ((c_s, c_p, c_n, (c_v0, c_l0), (c_v1, c_l1), (c_v2, c_l2), (c_v3, c_l3)) : Atm)
    case false =>
      have hnx : Hid (posF (P.take (k + 1)) ((c_s, c_p, c_n, (c_v0, c_l0), (c_v1, c_l1), (c_v2, c_l2), (c_v3, c_l3)) : Atm) 0 = none) := posF_not hlt hno.out (fun e => by rw [← hx.out] at e; rw [e, eqA_self] at hq9; cases hq9)
      replace hS4 := hS4.trans ((Since.refl w4).drew)
      replace xA := xA.next ((Since.refl w4).drew)
      replace rA := rA.next ((Since.refl w4).drew)
      replace cA := cA.next ((Since.refl w4).drew)
      refine hx_begin (S := fun W => (Since w3 W) ∧ (At W b (ob + k * 11) #[.string ⟨x_s.toArray⟩, .string ⟨x_p.toArray⟩, .int .i64 x_n, .bool x_v0, .string ⟨x_l0.toArray⟩, .bool x_v1, .string ⟨x_l1.toArray⟩, .bool x_v2, .string ⟨x_l2.toArray⟩, .bool x_v3, .string ⟨x_l3.toArray⟩]) ∧ (At W r 0 #[.slice (some ⟨b, ob, none⟩) P.length sc]) ∧ (At W w.heap.size 0 #[.string ⟨c_s.toArray⟩, .string ⟨c_p.toArray⟩, .int .i64 c_n, .bool c_v0, .string ⟨c_l0.toArray⟩, .bool c_v1, .string ⟨c_l1.toArray⟩, .bool c_v2, .string ⟨c_l2.toArray⟩, .bool c_v3, .string ⟨c_l3.toArray⟩])) (by kernel_rfl) ⟨hS4, xA, rA, cA⟩ (by kernel_rfl) (fun _ _ _ _ _ h => h) (fun hns hQ => ?_)
      refine hx_take (i := 0) (oi := _) (v := .pointer (some ⟨r, 0, none⟩)) rfl rfl hns (by kernel_rfl) (by kernel_rfl) hQ (by kernel_rfl) (fun _ _ => by kernel_rfl) ⟨hS4, xA, rA, cA⟩ ?_
      refine hx_take (i := 1) (oi := _) (v := .pointer (some ⟨r, 0, none⟩)) rfl rfl hns (by kernel_rfl) (by kernel_rfl) hQ (by kernel_rfl) (fun _ _ => by kernel_rfl) ⟨hS4, xA, rA, cA⟩ ?_
      refine hx_take (i := 2) (oi := _) (v := .pointer (some ⟨r, 0, none⟩)) rfl rfl hns (by kernel_rfl) (by kernel_rfl) hQ (by kernel_rfl) (fun _ _ => by kernel_rfl) ⟨hS4, xA, rA, cA⟩ ?_
      refine hx_take (i := 3) (oi := _) (v := .slice (some ⟨b, ob, none⟩) P.length sc) rfl rfl hns (by kernel_rfl) (by kernel_rfl) hQ (by kernel_rfl) (fun W hW => ld_one rfl (by kernel_rfl) (by kernel_rfl) W (hW.2.2.1 0 _ rfl)) ⟨hS4, xA, rA, cA⟩ ?_
      refine hx_take (i := 4) (oi := _) (v := .int .i64 (k : Int)) rfl rfl hns (by kernel_rfl) (by kernel_rfl) hQ (by kernel_rfl) (fun _ _ => by kernel_rfl) ⟨hS4, xA, rA, cA⟩ ?_
      refine hx_take (i := 5) (oi := _) (v := .pointer (some ⟨b, ob + k * 11, none⟩)) rfl rfl hns (by kernel_rfl) (by kernel_rfl) hQ (by kernel_rfl) (fun W _ => ix_sl (n := P.length) (c := sc) (K := 11) rfl (by kernel_rfl) (by kernel_rfl) (by kernel_rfl) rfl hlt W) ⟨hS4, xA, rA, cA⟩ ?_
      refine hx_take (i := 6) (oi := _) (v := .agg #[.string ⟨x_s.toArray⟩, .string ⟨x_p.toArray⟩, .int .i64 x_n, .bool x_v0, .string ⟨x_l0.toArray⟩, .bool x_v1, .string ⟨x_l1.toArray⟩, .bool x_v2, .string ⟨x_l2.toArray⟩, .bool x_v3, .string ⟨x_l3.toArray⟩]) rfl rfl hns (by kernel_rfl) (by kernel_rfl) hQ (by kernel_rfl) (fun W hW => ld_at rfl (by kernel_rfl) (by kernel_rfl) (by kernel_rfl) W (hW.2.1)) ⟨hS4, xA, rA, cA⟩ ?_
      refine hx_take (i := 7) (oi := _) (v := .agg #[.string ⟨c_s.toArray⟩, .string ⟨c_p.toArray⟩, .int .i64 c_n, .bool c_v0, .string ⟨c_l0.toArray⟩, .bool c_v1, .string ⟨c_l1.toArray⟩, .bool c_v2, .string ⟨c_l2.toArray⟩, .bool c_v3, .string ⟨c_l3.toArray⟩]) rfl rfl hns (by kernel_rfl) (by kernel_rfl) hQ (by kernel_rfl) (fun W hW => ld_at rfl (by kernel_rfl) (by kernel_rfl) (by kernel_rfl) W (hW.2.2.2)) ⟨hS4, xA, rA, cA⟩ ?_
      refine hx_take (i := 8) (oi := _) (v := .bool false) rfl rfl hns (by kernel_rfl) (by kernel_rfl) hQ (by kernel_rfl) (fun W _ => bin_valT (eqg_atom x_s x_p x_n x_v0 x_v1 x_v2 x_v3 x_l0 x_l1 x_l2 x_l3 c_s c_p c_n c_v0 c_v1 c_v2 c_v3 c_l0 c_l1 c_l2 c_l3 rfl (by kernel_rfl) (by kernel_rfl) W) hq9) ⟨hS4, xA, rA, cA⟩ ?_
      refine wpAnyH_done (by kernel_rfl) ?_ _
      clear hns hQ
      simp only [List.set_cons_zero, List.set_cons_succ]
      clear xA rA cA
      go_wp2_with fail
      go_roundw
      case rel => exact ⟨k + 1, by omega, by go_num, hS4, hnx⟩
      case measure => simp [intOf]; omega
    case true =>
      have hyes : Hid (posF P ((c_s, c_p, c_n, (c_v0, c_l0), (c_v1, c_l1), (c_v2, c_l2), (c_v3, c_l3)) : Atm) 0 = some k) := posF_here hlt hno.out (by rw [← hx.out]; exact eqA_iff.1 hq9)
      replace hS4 := hS4.trans ((Since.refl w4).drew)
      replace xA := xA.next ((Since.refl w4).drew)
      replace rA := rA.next ((Since.refl w4).drew)
      replace cA := cA.next ((Since.refl w4).drew)
      refine hx_begin (S := fun W => (Since w3 W) ∧ (At W b (ob + k * 11) #[.string ⟨x_s.toArray⟩, .string ⟨x_p.toArray⟩, .int .i64 x_n, .bool x_v0, .string ⟨x_l0.toArray⟩, .bool x_v1, .string ⟨x_l1.toArray⟩, .bool x_v2, .string ⟨x_l2.toArray⟩, .bool x_v3, .string ⟨x_l3.toArray⟩]) ∧ (At W r 0 #[.slice (some ⟨b, ob, none⟩) P.length sc]) ∧ (At W w.heap.size 0 #[.string ⟨c_s.toArray⟩, .string ⟨c_p.toArray⟩, .int .i64 c_n, .bool c_v0, .string ⟨c_l0.toArray⟩, .bool c_v1, .string ⟨c_l1.toArray⟩, .bool c_v2, .string ⟨c_l2.toArray⟩, .bool c_v3, .string ⟨c_l3.toArray⟩])) (by kernel_rfl) ⟨hS4, xA, rA, cA⟩ (by kernel_rfl) (fun _ _ _ _ _ h => h) (fun hns hQ => ?_)
      refine hx_take (i := 0) (oi := _) (v := .pointer (some ⟨r, 0, none⟩)) rfl rfl hns (by kernel_rfl) (by kernel_rfl) hQ (by kernel_rfl) (fun _ _ => by kernel_rfl) ⟨hS4, xA, rA, cA⟩ ?_
      refine hx_take (i := 1) (oi := _) (v := .pointer (some ⟨r, 0, none⟩)) rfl rfl hns (by kernel_rfl) (by kernel_rfl) hQ (by kernel_rfl) (fun _ _ => by kernel_rfl) ⟨hS4, xA, rA, cA⟩ ?_
      refine hx_take (i := 2) (oi := _) (v := .pointer (some ⟨r, 0, none⟩)) rfl rfl hns (by kernel_rfl) (by kernel_rfl) hQ (by kernel_rfl) (fun _ _ => by kernel_rfl) ⟨hS4, xA, rA, cA⟩ ?_
      refine hx_take (i := 3) (oi := _) (v := .slice (some ⟨b, ob, none⟩) P.length sc) rfl rfl hns (by kernel_rfl) (by kernel_rfl) hQ (by kernel_rfl) (fun W hW => ld_one rfl (by kernel_rfl) (by kernel_rfl) W (hW.2.2.1 0 _ rfl)) ⟨hS4, xA, rA, cA⟩ ?_
      refine hx_take (i := 4) (oi := _) (v := .int .i64 (k : Int)) rfl rfl hns (by kernel_rfl) (by kernel_rfl) hQ (by kernel_rfl) (fun _ _ => by kernel_rfl) ⟨hS4, xA, rA, cA⟩ ?_
      refine hx_take (i := 5) (oi := _) (v := .pointer (some ⟨b, ob + k * 11, none⟩)) rfl rfl hns (by kernel_rfl) (by kernel_rfl) hQ (by kernel_rfl) (fun W _ => ix_sl (n := P.length) (c := sc) (K := 11) rfl (by kernel_rfl) (by kernel_rfl) (by kernel_rfl) rfl hlt W) ⟨hS4, xA, rA, cA⟩ ?_
      refine hx_take (i := 6) (oi := _) (v := .agg #[.string ⟨x_s.toArray⟩, .string ⟨x_p.toArray⟩, .int .i64 x_n, .bool x_v0, .string ⟨x_l0.toArray⟩, .bool x_v1, .string ⟨x_l1.toArray⟩, .bool x_v2, .string ⟨x_l2.toArray⟩, .bool x_v3, .string ⟨x_l3.toArray⟩]) rfl rfl hns (by kernel_rfl) (by kernel_rfl) hQ (by kernel_rfl) (fun W hW => ld_at rfl (by kernel_rfl) (by kernel_rfl) (by kernel_rfl) W (hW.2.1)) ⟨hS4, xA, rA, cA⟩ ?_
      refine hx_take (i := 7) (oi := _) (v := .agg #[.string ⟨c_s.toArray⟩, .string ⟨c_p.toArray⟩, .int .i64 c_n, .bool c_v0, .string ⟨c_l0.toArray⟩, .bool c_v1, .string ⟨c_l1.toArray⟩, .bool c_v2, .string ⟨c_l2.toArray⟩, .bool c_v3, .string ⟨c_l3.toArray⟩]) rfl rfl hns (by kernel_rfl) (by kernel_rfl) hQ (by kernel_rfl) (fun W hW => ld_at rfl (by kernel_rfl) (by kernel_rfl) (by kernel_rfl) W (hW.2.2.2)) ⟨hS4, xA, rA, cA⟩ ?_
      refine hx_take (i := 8) (oi := _) (v := .bool true) rfl rfl hns (by kernel_rfl) (by kernel_rfl) hQ (by kernel_rfl) (fun W _ => bin_valT (eqg_atom x_s x_p x_n x_v0 x_v1 x_v2 x_v3 x_l0 x_l1 x_l2 x_l3 c_s c_p c_n c_v0 c_v1 c_v2 c_v3 c_l0 c_l1 c_l2 c_l3 rfl (by kernel_rfl) (by kernel_rfl) W) hq9) ⟨hS4, xA, rA, cA⟩ ?_
      refine wpAnyH_done (by kernel_rfl) ?_ _
      clear hns hQ
      simp only [List.set_cons_zero, List.set_cons_succ]
      clear xA rA cA
      go_wp2_with fail
      go_ret2
      exact ⟨by rw [hyes.out]; rfl, hS3.trans hS4⟩
  have hlt2 : ¬ (k : Int) < (P.length : Int) := by omega
  rw [List.take_of_length_le (by omega)] at hno
  go_wp2_with fail
  go_ret2
  exact ⟨by rw [hno.out]; rfl, hS5⟩
end Go.Proofs.YtbgdljcgbhhfdaaGreatDoor

namespace Go.Proofs.YtbgdljcgbhhfdaaGreatDoor
open Go.RowKit Go.Maps Go.WideMaps

set_option maxHeartbeats 4000000 in
set_option maxRecDepth 100000 in
theorem rcall_yes {D r : Nat} {av gv wv : Value} {S : List TCall} {GL : List (List Atm × Value)} {WL : List (List Int × Value)} (i : Nat) (w : World) (h : RefAt w D r av gv wv S GL WL) (hi : i < S.length) :
    Calls Tryz.prog 18 #[.pointer (some ⟨r, 0, none⟩), .int .i64 (i : Int)] w fun e w' => e = .returned (.tuple #[.agg (atmC (S[i]).1), .bool true]) ∧ Since w w' := by
  have hS1 : Since w (w.alloc (.cells #[.string ⟨#[]⟩, .string ⟨#[]⟩, .int .i64 0, .bool false, .string ⟨#[]⟩, .bool false, .string ⟨#[]⟩, .bool false, .string ⟨#[]⟩, .bool false, .string ⟨#[]⟩] 33)) := (Since.refl _).alloc _
  have K2 : Hid (Cel (w.alloc (.cells #[.string ⟨#[]⟩, .string ⟨#[]⟩, .int .i64 0, .bool false, .string ⟨#[]⟩, .bool false, .string ⟨#[]⟩, .bool false, .string ⟨#[]⟩, .bool false, .string ⟨#[]⟩] 33)) w.heap.size #[.string ⟨#[]⟩, .string ⟨#[]⟩, .int .i64 0, .bool false, .string ⟨#[]⟩, .bool false, .string ⟨#[]⟩, .bool false, .string ⟨#[]⟩, .bool false, .string ⟨#[]⟩] 33) := heap_alloc_new w _
  have HIS := Lib.hid (ris_yes i _ (h.next hS1) hi)
  have hat := h.atoms
  obtain ⟨P, hP⟩ : ∃ P, Hid (P = S.map fun c => c.1) := ⟨_, rfl⟩
  have hPl : P.length = S.length := by rw [hP.out, List.length_map]
  rw [← hP.out, ← hPl] at hat
  obtain ⟨sa, sc, rfl⟩ : ∃ a c, av = .slice a P.length c := own_slice hat
  have HAR := Lib.hid (own_arow1 hat)
  have r00 : w.cell? ⟨r, 0, none⟩ = some (.slice sa P.length sc) := h.cel.cell 0
  have hiP : i < P.length := by rw [hPl]; exact hi
  have hx0 : P[i] = (S[i]).1 := by
    have h2 := congrArg (fun l => l[i]?) hP.out
    simp only [List.getElem?_map, List.getElem?_eq_getElem hiP, List.getElem?_eq_getElem hi, Option.map_some] at h2
    injection h2
  obtain ⟨⟨x_s, x_p, x_n, ⟨x_v0, x_l0⟩, ⟨x_v1, x_l1⟩, ⟨x_v2, x_l2⟩, ⟨x_v3, x_l3⟩⟩, hx⟩ : ∃ x, Hid (x = P[i]) := ⟨P[i], rfl⟩
  rw [← hx0, ← hx.out]
  obtain ⟨b, ob, e1, hc, hrow⟩ := HAR.out.get (by omega)
  have HD := Lib.hid (hrow i hiP)
  rw [← hx.out] at HD
  have h1 : (i : Int) < (P.length : Int) := by omega
  have h2 : (0 : Int) ≤ (i : Int) := by omega
  subst e1
  clear h hi hat hP hPl hx hx0 hrow HAR hc hiP
  go_enter Tryz.func18, Tryz.ntmps18
  go_wp2_with fail
  refine HIS.out.mono ?_
  rintro e w2 ⟨rfl, hb2⟩
  have hS2 := hS1.trans hb2
  have K2b := Lib.hid (K2.out.next hb2)
  have r2 := hS2.cell r00
  have d1 := HD.out.next hS2
  obtain ⟨x_c0, x_c1, x_c2, x_c3, x_c4, x_c5, x_c6, x_c7, x_c8, x_c9, x_c10⟩ := d1.all
  have hone : Hid (((#[.string ⟨x_s.toArray⟩, .string ⟨x_p.toArray⟩, .int .i64 x_n, .bool x_v0, .string ⟨x_l0.toArray⟩, .bool x_v1, .string ⟨x_l1.toArray⟩, .bool x_v2, .string ⟨x_l2.toArray⟩, .bool x_v3, .string ⟨x_l3.toArray⟩] : Array Value).all (·.oneCell')) = true) := by show _ = _; simp [Value.oneCell']
  clear K2 HIS r00 d1
  go_wp2_with (refine wpList_store_row rfl 33 (.tmp 4) (.tmp 17) rfl w.heap.size #[.string ⟨x_s.toArray⟩, .string ⟨x_p.toArray⟩, .int .i64 x_n, .bool x_v0, .string ⟨x_l0.toArray⟩, .bool x_v1, .string ⟨x_l1.toArray⟩, .bool x_v2, .string ⟨x_l2.toArray⟩, .bool x_v3, .string ⟨x_l3.toArray⟩] rfl rfl 33 #[.string ⟨#[]⟩, .string ⟨#[]⟩, .int .i64 0, .bool false, .string ⟨#[]⟩, .bool false, .string ⟨#[]⟩, .bool false, .string ⟨#[]⟩, .bool false, .string ⟨#[]⟩] K2b.out ainfoC rfl hone.out ?_)
  have hbx : Box (w2.setRow w.heap.size #[.string ⟨x_s.toArray⟩, .string ⟨x_p.toArray⟩, .int .i64 x_n, .bool x_v0, .string ⟨x_l0.toArray⟩, .bool x_v1, .string ⟨x_l1.toArray⟩, .bool x_v2, .string ⟨x_l2.toArray⟩, .bool x_v3, .string ⟨x_l3.toArray⟩]) w.heap.size ((x_s, x_p, x_n, (x_v0, x_l0), (x_v1, x_l1), (x_v2, x_l2), (x_v3, x_l3)) : Atm) := cel_boxA (T := 33) (K2b.out.row (atmC ((x_s, x_p, x_n, (x_v0, x_l0), (x_v1, x_l1), (x_v2, x_l2), (x_v3, x_l3)) : Atm)))
  obtain ⟨e0, e1, e2, e3, e4, e5, e6, e7, e8, e9, e10⟩ := hbx.all
  clear x_c0 x_c1 x_c2 x_c3 x_c4 x_c5 x_c6 x_c7 x_c8 x_c9 x_c10 hone K2b
  go_wp2_with fail
  refine bodyPost_ret (v := .tuple #[.agg #[.string ⟨x_s.toArray⟩, .string ⟨x_p.toArray⟩, .int .i64 x_n, .bool x_v0, .string ⟨x_l0.toArray⟩, .bool x_v1, .string ⟨x_l1.toArray⟩, .bool x_v2, .string ⟨x_l2.toArray⟩, .bool x_v3, .string ⟨x_l3.toArray⟩], .bool true]) (by simp [results, Tryz.results18, go_sem, e0, e1, e2, e3, e4, e5, e6, e7, e8, e9, e10]) rfl ?_
  exact ⟨rfl, since_setRow hS2 (Nat.le_refl _) _⟩
set_option maxHeartbeats 4000000 in
set_option maxRecDepth 100000 in
theorem rcall_no {D r : Nat} {av gv wv : Value} {S : List TCall} {GL : List (List Atm × Value)} {WL : List (List Int × Value)} (i : Int) (w : World) (h : RefAt w D r av gv wv S GL WL) (hi : i < 0 ∨ (S.length : Int) ≤ i) :
    Calls Tryz.prog 18 #[.pointer (some ⟨r, 0, none⟩), .int .i64 i] w fun e w' => e = .returned (.tuple #[.agg #[.string ⟨#[]⟩, .string ⟨#[]⟩, .int .i64 0, .bool false, .string ⟨#[]⟩, .bool false, .string ⟨#[]⟩, .bool false, .string ⟨#[]⟩, .bool false, .string ⟨#[]⟩], .bool false]) ∧ Since w w' := by
  have hS1 : Since w (w.alloc (.cells #[.string ⟨#[]⟩, .string ⟨#[]⟩, .int .i64 0, .bool false, .string ⟨#[]⟩, .bool false, .string ⟨#[]⟩, .bool false, .string ⟨#[]⟩, .bool false, .string ⟨#[]⟩] 33)) := (Since.refl _).alloc _
  have K2 : Hid (Cel (w.alloc (.cells #[.string ⟨#[]⟩, .string ⟨#[]⟩, .int .i64 0, .bool false, .string ⟨#[]⟩, .bool false, .string ⟨#[]⟩, .bool false, .string ⟨#[]⟩, .bool false, .string ⟨#[]⟩] 33)) w.heap.size #[.string ⟨#[]⟩, .string ⟨#[]⟩, .int .i64 0, .bool false, .string ⟨#[]⟩, .bool false, .string ⟨#[]⟩, .bool false, .string ⟨#[]⟩, .bool false, .string ⟨#[]⟩] 33) := heap_alloc_new w _
  have HAT := Lib.hid (ris_no i _ (h.next hS1) hi)
  clear h hi
  go_enter Tryz.func18, Tryz.ntmps18
  go_wp2_with fail
  refine HAT.out.mono ?_
  rintro e w2 ⟨rfl, hb2⟩
  have hS2 := hS1.trans hb2
  have K2b := Lib.hid (K2.out.next hb2)
  have hone : Hid (((#[.string ⟨#[]⟩, .string ⟨#[]⟩, .int .i64 0, .bool false, .string ⟨#[]⟩, .bool false, .string ⟨#[]⟩, .bool false, .string ⟨#[]⟩, .bool false, .string ⟨#[]⟩] : Array Value).all (·.oneCell')) = true) := by show _ = _; simp [Value.oneCell']
  clear K2 HAT
  go_wp2_with (refine wpList_store_row rfl 33 (.tmp 4) (.tmp 10) rfl w.heap.size #[.string ⟨#[]⟩, .string ⟨#[]⟩, .int .i64 0, .bool false, .string ⟨#[]⟩, .bool false, .string ⟨#[]⟩, .bool false, .string ⟨#[]⟩, .bool false, .string ⟨#[]⟩] rfl rfl 33 #[.string ⟨#[]⟩, .string ⟨#[]⟩, .int .i64 0, .bool false, .string ⟨#[]⟩, .bool false, .string ⟨#[]⟩, .bool false, .string ⟨#[]⟩, .bool false, .string ⟨#[]⟩] K2b.out ainfoC rfl hone.out ?_)
  have hbx : Box (w2.setRow w.heap.size #[.string ⟨#[]⟩, .string ⟨#[]⟩, .int .i64 0, .bool false, .string ⟨#[]⟩, .bool false, .string ⟨#[]⟩, .bool false, .string ⟨#[]⟩, .bool false, .string ⟨#[]⟩]) w.heap.size zeroAC := cel_boxA (T := 33) (K2b.out.row (atmC zeroAC))
  obtain ⟨e0, e1, e2, e3, e4, e5, e6, e7, e8, e9, e10⟩ := hbx.all
  clear hone K2b
  go_wp2_with fail
  refine bodyPost_ret (v := .tuple #[.agg #[.string ⟨#[]⟩, .string ⟨#[]⟩, .int .i64 0, .bool false, .string ⟨#[]⟩, .bool false, .string ⟨#[]⟩, .bool false, .string ⟨#[]⟩, .bool false, .string ⟨#[]⟩], .bool false]) (by simp [results, Tryz.results18, go_sem, zeroAC, e0, e1, e2, e3, e4, e5, e6, e7, e8, e9, e10]) rfl ?_
  exact ⟨rfl, since_setRow hS2 (Nat.le_refl _) _⟩
theorem cntS_take {S : List TCall} {k : Nat} (h : k < S.length) : cntS (S.take (k + 1)) = cntS (S.take k) + (S[k]).2.1.length := by
  unfold cntS
  rw [List.take_succ_eq_append_getElem h, List.map_append, List.sum_append]
  simp
theorem cntS_le (S : List TCall) (k : Nat) : cntS (S.take k) ≤ cntS S := by
  unfold cntS
  conv => rhs; rw [← List.take_append_drop k S]
  rw [List.map_append, List.sum_append]
  exact Nat.le_add_right _ _
set_option maxHeartbeats 4000000 in
set_option maxRecDepth 100000 in
theorem rcount18 {D r : Nat} {av gv wv : Value} {S : List TCall} {GL : List (List Atm × Value)} {WL : List (List Int × Value)} (w : World) (h : RefAt w D r av gv wv S GL WL) (hl : S.length < 1000) (hcn : cntS S < 1000000) :
    Calls Tryz.prog 21 #[.pointer (some ⟨r, 0, none⟩)] w fun e w' => e = .returned (.int .i64 (cntS S : Int)) ∧ Since w w' := by
  have hgl := h.glen
  obtain ⟨ga, gc, rfl⟩ := h.got.len
  have r0 : w.cell? ⟨r, 1, none⟩ = some (.slice ga GL.length gc) := h.cel.cell 1
  have HH := Lib.hid h
  have HGL := Lib.hid hgl
  have hl2 : GL.length < 1000 := by omega
  clear h hgl hl
  go_enter Tryz.func21, Tryz.ntmps21
  go_wp2_with fail
  go_loopw [4, 3] (fun i n wr => ∃ k : Nat, k ≤ GL.length ∧ i = .int .i64 (k : Int) ∧ n = .int .i64 (cntS (S.take k) : Int) ∧ Since w wr) (fun i _ _ => GL.length - (intOf i).toNat)
  case atStart => exact ⟨0, Nat.zero_le _, rfl, rfl, Since.refl _⟩
  case round =>
  rename World => w1
  obtain ⟨k, hk, rfl, rfl, hS⟩ := hrel
  have r1 := hS.cell r0
  by_cases hlt : k < GL.length
  · have hlt2 : (k : Int) < (GL.length : Int) := by omega
    have hlt0 : (0 : Int) ≤ (k : Int) := by omega
    have hkS : k < S.length := by rw [← HGL.out]; exact hlt
    obtain ⟨gb, gcap, cur, e1, e2, e3, e4⟩ := HH.out.got.at hlt
    obtain ⟨rfl, rfl⟩ : ga = some ⟨gb, 0, none⟩ ∧ gc = gcap := by
      injection e1 with k1 k2 k3
      exact ⟨k1, k3⟩
    have hrow : (GL[k]).1 = (S[k]).2.1 := by
      have h2 := congrArg (fun l => l[k]?) HH.out.gm
      simp only [List.getElem?_map, List.getElem?_eq_getElem hlt, List.getElem?_eq_getElem hkS, Option.map_some] at h2
      injection h2
    have hin := HH.out.got.inner hlt
    rw [hrow] at hin
    have hnx := cntS_take hkS
    have hle := cntS_le S (k + 1)
    obtain ⟨m, hm⟩ : ∃ m, Hid (m = (S[k]).2.1.length) := ⟨(S[k]).2.1.length, rfl⟩
    obtain ⟨u, hu⟩ : ∃ u, Hid (u = (GL[k]).2) := ⟨(GL[k]).2, rfl⟩
    rw [← hm.out] at hnx hin
    rw [← hu.out] at hin e4
    obtain ⟨ra, rc, rfl⟩ : ∃ a c, u = .slice a m c := own_slice hin
    obtain ⟨n0, hn0⟩ : ∃ n, Hid (n = cntS (S.take k)) := ⟨_, rfl⟩
    have c1 : w1.cell? ⟨gb, k, none⟩ = some (.slice ra m rc) := hS.cell ((e3.cell k).trans e4)
    have hbd : n0 + m < 1000000 := by rw [hn0.out]; omega
    have HNX : Hid ((n0 : Int) + (m : Int) = (cntS (S.take (k + 1)) : Int)) := by show _ = _; rw [hnx, hn0.out, Int.natCast_add]
    rw [← hn0.out]
    clear hin e4 e3 e1 e2 hm hu hnx hrow hle hn0
    go_wp2_with fail
    go_roundw
    case rel => exact ⟨k + 1, by omega, by go_num, by rw [← HNX.out], hS⟩
    case measure => simp [intOf]; omega
  have hlt2 : ¬ (k : Int) < (GL.length : Int) := by omega
  have hfin : cntS (S.take k) = cntS S := by rw [List.take_of_length_le (by rw [← HGL.out]; omega)]
  rw [hfin]
  clear hfin
  go_wp2_with fail
  go_ret
  exact ⟨rfl, hS⟩
set_option maxHeartbeats 4000000 in
set_option maxRecDepth 100000 in
theorem rwaiters_yes {D r : Nat} {av gv wv : Value} {S : List TCall} {GL : List (List Atm × Value)} {WL : List (List Int × Value)} (i : Nat) (w : World) (h : RefAt w D r av gv wv S GL WL) (hi : i < S.length) (hm : (S[i]).2.2.length ≤ 100000) :
    Calls Tryz.prog 24 #[.pointer (some ⟨r, 0, none⟩), .int .i64 (i : Int)] w fun e w' => ∃ v', e = .returned v' ∧ w'.ownsRow w.heap.size 3 1 v' (S[i]).2.2.length ((S[i]).2.2.flatMap intL) ∧ Since w w' := by
  have HIS := Lib.hid (ris_yes i w h hi)
  have hiL : i < WL.length := by rw [h.wlen]; exact hi
  obtain ⟨gb, gcap, cur, e1, e2, e3, e4⟩ := h.who.at hiL
  have hrow : (WL[i]).1 = (S[i]).2.2 := by
    have h2 := congrArg (fun l => l[i]?) h.wm
    simp only [List.getElem?_map, List.getElem?_eq_getElem hiL, List.getElem?_eq_getElem hi, Option.map_some] at h2
    injection h2
  have hin := h.who.inner hiL
  rw [hrow] at hin
  have r0 : w.cell? ⟨r, 2, none⟩ = some (.slice (some ⟨gb, 0, none⟩) WL.length gcap) := by rw [← e1]; exact h.cel.cell 2
  obtain ⟨L, hL⟩ : ∃ L, Hid (L = (S[i]).2.2) := ⟨(S[i]).2.2, rfl⟩
  obtain ⟨u, hu⟩ : ∃ u, Hid (u = (WL[i]).2) := ⟨(WL[i]).2, rfl⟩
  rw [← hL.out] at hin hm ⊢
  rw [← hu.out] at hin e4
  obtain ⟨ra, rc, rfl⟩ : ∃ a c, u = .slice a L.length c := own_slice hin
  have HIR := Lib.hid (own_irow1 hin)
  have c0 : w.cell? ⟨gb, i, none⟩ = some (.slice ra L.length rc) := (e3.cell i).trans e4
  obtain ⟨i0, hi0, hz0, hz1, hz2⟩ := info_parts info_ints
  have HI := Lib.hid (And.intro hi0 (And.intro hz0 (And.intro hz1 hz2)))
  have h1 : (i : Int) < (WL.length : Int) := by omega
  have h2 : (0 : Int) ≤ (i : Int) := by omega
  clear h hi hin e1 e2 e3 e4 hrow hL hu hi0 hz0 hz1 hz2
  go_enter Tryz.func24, Tryz.ntmps24
  go_wp2_with fail
  refine HIS.out.mono ?_
  rintro e w2 ⟨rfl, hb⟩
  have hA : Since w2 (w2.alloc (.cells #[] 3)) := (Since.refl w2).alloc _
  have r2 := (hb.trans hA).cell r0
  have c2 := (hb.trans hA).cell c0
  have HR := Lib.hid (int_reads (inext HIR.out (hb.trans hA)))
  clear r0 c0 HIS
  go_wp2_with (at_builtin; refine wpList_append_any _ rfl (.tmp 9) (.tmp 16) 54 rfl w2.heap.size 3 i0 (.int .i64 0) 1 8 Tryz.underlying54 HI.out.1 HI.out.2.1 HI.out.2.2.1 HI.out.2.2.2 rfl (by decide) _ 0 [] rfl (own_made0 w2 3 1) _ ra L.length rc (L.flatMap intL) rfl HR.out ?c1 ?c2 ?c3 ?c4 ?_)
  case c1 => exact flat_oneK intL_one L
  case c2 => unfold maxLen; omega
  case c3 => omega
  case c4 => simp
  intro v' w' hown hgrow _
  have hB : Since w2 w' := Below.grown ((Since.refl w2).alloc _) hgrow (by simp) (own_ge (own_made0 w2 3 1))
  have hown2 : w'.ownsRow w.heap.size 3 1 v' L.length (L.flatMap intL) := own_base (by simpa using hown) hb.size
  obtain ⟨va, vc, rfl⟩ := own_slice hown2
  clear HR hgrow hown
  go_wp2_with fail
  go_ret
  exact ⟨_, rfl, hown2, hb.trans hB⟩
set_option maxHeartbeats 1000000 in
theorem rwaiters_no {D r : Nat} {av gv wv : Value} {S : List TCall} {GL : List (List Atm × Value)} {WL : List (List Int × Value)} (i : Int) (w : World) (h : RefAt w D r av gv wv S GL WL) (hi : i < 0 ∨ (S.length : Int) ≤ i) :
    Calls Tryz.prog 24 #[.pointer (some ⟨r, 0, none⟩), .int .i64 i] w fun e w' => e = .returned (.slice none 0 0) ∧ Since w w' := by
  have HIS := Lib.hid (ris_no i w h hi)
  clear h hi
  go_enter Tryz.func24, Tryz.ntmps24
  go_wp2_with fail
  refine HIS.out.mono ?_
  rintro e w2 ⟨rfl, hb⟩
  go_wp2_with fail
  go_ret
  exact ⟨rfl, hb⟩
set_option maxHeartbeats 4000000 in
set_option maxRecDepth 100000 in
theorem ranswers_yes {D r : Nat} {av gv wv : Value} {S : List TCall} {GL : List (List Atm × Value)} {WL : List (List Int × Value)} (i : Nat) (w : World) (h : RefAt w D r av gv wv S GL WL) (hi : i < S.length) (hm : (S[i]).2.1.length ≤ 100000) :
    Calls Tryz.prog 27 #[.pointer (some ⟨r, 0, none⟩), .int .i64 (i : Int)] w fun e w' => ∃ v', e = .returned v' ∧ w'.ownsRow w.heap.size 33 11 v' (S[i]).2.1.length ((S[i]).2.1.flatMap atmL) ∧ Since w w' := by
  have HIS := Lib.hid (ris_yes i w h hi)
  have hiL : i < GL.length := by rw [h.glen]; exact hi
  obtain ⟨gb, gcap, cur, e1, e2, e3, e4⟩ := h.got.at hiL
  have hrow : (GL[i]).1 = (S[i]).2.1 := by
    have h2 := congrArg (fun l => l[i]?) h.gm
    simp only [List.getElem?_map, List.getElem?_eq_getElem hiL, List.getElem?_eq_getElem hi, Option.map_some] at h2
    injection h2
  have hin := h.got.inner hiL
  rw [hrow] at hin
  have r0 : w.cell? ⟨r, 1, none⟩ = some (.slice (some ⟨gb, 0, none⟩) GL.length gcap) := by rw [← e1]; exact h.cel.cell 1
  obtain ⟨L, hL⟩ : ∃ L, Hid (L = (S[i]).2.1) := ⟨(S[i]).2.1, rfl⟩
  obtain ⟨u, hu⟩ : ∃ u, Hid (u = (GL[i]).2) := ⟨(GL[i]).2, rfl⟩
  rw [← hL.out] at hin hm ⊢
  rw [← hu.out] at hin e4
  obtain ⟨ra, rc, rfl⟩ : ∃ a c, u = .slice a L.length c := own_slice hin
  have HIR := Lib.hid (own_arow1 hin)
  have c0 : w.cell? ⟨gb, i, none⟩ = some (.slice ra L.length rc) := (e3.cell i).trans e4
  obtain ⟨i0, hi0, hz0, hz1, hz2⟩ := info_parts own_atm_info
  have HI := Lib.hid (And.intro hi0 (And.intro hz0 (And.intro hz1 hz2)))
  have h1 : (i : Int) < (GL.length : Int) := by omega
  have h2 : (0 : Int) ≤ (i : Int) := by omega
  clear h hi hin e1 e2 e3 e4 hrow hL hu hi0 hz0 hz1 hz2
  go_enter Tryz.func27, Tryz.ntmps27
  go_wp2_with fail
  refine HIS.out.mono ?_
  rintro e w2 ⟨rfl, hb⟩
  have hA : Since w2 (w2.alloc (.cells #[] 33)) := (Since.refl w2).alloc _
  have r2 := (hb.trans hA).cell r0
  have c2 := (hb.trans hA).cell c0
  have HR := Lib.hid (atm_reads (anext HIR.out (hb.trans hA)))
  clear r0 c0 HIS
  go_wp2_with (at_builtin; refine wpList_append_any _ rfl (.tmp 9) (.tmp 16) 48 rfl w2.heap.size 33 i0 (.agg #[.string ByteArray.empty, .string ByteArray.empty, .int .i64 0, .bool false, .string ByteArray.empty, .bool false, .string ByteArray.empty, .bool false, .string ByteArray.empty, .bool false, .string ByteArray.empty]) 11 136 Tryz.underlying48 HI.out.1 HI.out.2.1 HI.out.2.2.1 HI.out.2.2.2 rfl (by decide) _ 0 [] rfl (own_made0 w2 33 11) _ ra L.length rc (L.flatMap atmL) rfl HR.out ?c1 ?c2 ?c3 ?c4 ?_)
  case c1 => exact flat_oneK atmL_one L
  case c2 => unfold maxLen; omega
  case c3 => omega
  case c4 => simp
  intro v' w' hown hgrow _
  have hB : Since w2 w' := Below.grown ((Since.refl w2).alloc _) hgrow (by simp) (own_ge (own_made0 w2 33 11))
  have hown2 : w'.ownsRow w.heap.size 33 11 v' L.length (L.flatMap atmL) := own_base (by simpa using hown) hb.size
  obtain ⟨va, vc, rfl⟩ := own_slice hown2
  clear HR hgrow hown
  go_wp2_with fail
  go_ret
  exact ⟨_, rfl, hown2, hb.trans hB⟩
set_option maxHeartbeats 1000000 in
theorem ranswers_no {D r : Nat} {av gv wv : Value} {S : List TCall} {GL : List (List Atm × Value)} {WL : List (List Int × Value)} (i : Int) (w : World) (h : RefAt w D r av gv wv S GL WL) (hi : i < 0 ∨ (S.length : Int) ≤ i) :
    Calls Tryz.prog 27 #[.pointer (some ⟨r, 0, none⟩), .int .i64 i] w fun e w' => e = .returned (.slice none 0 0) ∧ Since w w' := by
  have HIS := Lib.hid (ris_no i w h hi)
  clear h hi
  go_enter Tryz.func27, Tryz.ntmps27
  go_wp2_with fail
  refine HIS.out.mono ?_
  rintro e w2 ⟨rfl, hb⟩
  go_wp2_with fail
  go_ret
  exact ⟨rfl, hb⟩
end Go.Proofs.YtbgdljcgbhhfdaaGreatDoor

namespace Go.Proofs.YtbgdljcgbhhfdaaGreatDoor
open Go.RowKit Go.Maps Go.WideMaps

theorem RefAt.waited {W Wa W3 : World} {D r : Nat} {av gv wv : Value} {S : List TCall} {GL : List (List Atm × Value)} {WL : List (List Int × Value)} (h : RefAt W D r av gv wv S GL WL) {i : Nat} (hi : i < S.length) (hiL : i < WL.length) {v' : Value} (x : Int) {ob : Nat} (hv : wv.ownBlock = some ob) (hs : Since W Wa) (hg : Wa.grownBy W3 (WL[i]).2.ownBlock)
    (hown : W3.ownsRow D 3 1 v' ((WL[i]).1.length + 1) ((WL[i]).1.flatMap intV1 ++ [.int .i64 x])) (hat : v'.ownBlock = (WL[i]).2.ownBlock ∨ v'.ownBlock = some Wa.heap.size) (hx : posF (S[i]).2.2 x 0 = none) :
    ∃ WL', RefAt (W3.setCell ⟨ob, 0 + i, none⟩ v') D r av gv wv (S.set i (waitC S[i] x)) GL WL' ∧ (∀ b, RefB r av gv wv GL WL' b → RefB r av gv wv GL WL b ∨ W.heap.size ≤ b) ∧ Keep (RefB r av gv wv GL WL) W (W3.setCell ⟨ob, 0 + i, none⟩ v') := by
  rw [Nat.zero_add]
  have hA := h.next hs
  have hIn := hA.who.inner hiL
  have hmem : WL[i] ∈ WL := List.getElem_mem hiL
  have hput := h.who.put (by decide) hs hiL hv hg hown hat
  have g2 : W3.grownBy (W3.setCell ⟨ob, i, none⟩ v') (some ob) := grown_setCell W3 ob i v'
  have hout3 : W3.ownsRow D 54 1 wv WL.length (WL.flatMap fun p => [p.2]) := (Nest.row hA.who).kept hg (own_kind_apart (Nest.row hA.who) hIn (by decide))
  obtain ⟨cur, hC⟩ : ∃ cur, Cel W3 ob cur 54 := by
    rcases hout3.2 with ⟨rfl, _⟩ | ⟨g, cap, cur, rfl, _, h2, _⟩
    · cases hv
    · obtain rfl : g = ob := by injection hv
      exact ⟨cur, h2⟩
  have hrow : (WL[i]).1 = (S[i]).2.2 := by
    have h2 := congrArg (fun l => l[i]?) h.wm
    simp only [List.getElem?_map, List.getElem?_eq_getElem hiL, List.getElem?_eq_getElem hi, Option.map_some] at h2
    injection h2
  have hwC : waitC S[i] x = ((S[i]).1, (S[i]).2.1, (S[i]).2.2 ++ [x]) := by unfold waitC; rw [hx]; rfl
  have hcel3 : Cel W3 r #[av, gv, wv] 52 := cel_own hA.cel hIn (by decide) hg
  have hcel4 := hcel3.grown g2 (fun e => cel_cel_ne hcel3 hC (by decide) (by injection e))
  have hat3 : W3.ownsRow D 33 11 av S.length ((S.map fun c => c.1).flatMap atmL) := hA.atoms.kept hg (own_kind_apart hA.atoms hIn (by decide))
  have hgot3 : GotAt W3 D gv GL := Nest.own hA.got hIn hg (by decide) (by decide)
  have hgot4 : GotAt (W3.setCell ⟨ob, i, none⟩ v') D gv GL := Nest.cel hgot3 hC g2 (by decide) (by decide)
  have m1 : (S.set i (waitC S[i] x)).map (fun c => c.1) = S.map fun c => c.1 := by
    rw [List.map_set, show (waitC S[i] x).1 = (S[i]).1 by rw [hwC]]
    have : (S[i]).1 = (S.map fun c => c.1)[i]'(by rw [List.length_map]; exact hi) := by rw [List.getElem_map]
    rw [this, List.set_getElem_self]
  have m2 : (S.set i (waitC S[i] x)).map (fun c => c.2.1) = S.map fun c => c.2.1 := by
    rw [List.map_set, show (waitC S[i] x).2.1 = (S[i]).2.1 by rw [hwC]]
    have : (S[i]).2.1 = (S.map fun c => c.2.1)[i]'(by rw [List.length_map]; exact hi) := by rw [List.getElem_map]
    rw [this, List.set_getElem_self]
  have hk : Keep (RefB r av gv wv GL WL) W (W3.setCell ⟨ob, i, none⟩ v') := by
    refine Keep.of_two hs hg g2 (fun b hb => .inr (.inr (.inr (.inr ⟨_, hmem, hb⟩)))) (fun b hb => ?_)
    injection hb with hb
    exact .inr (.inr (.inr (.inl (by rw [hv, hb]))))
  refine ⟨_, ⟨hcel4, ?_, hgot4, hput, by rw [m2]; exact h.gm, ?_, h.gapart, h.low⟩, fun b hb => ?_, hk⟩
  · rw [List.length_set, m1]
    exact own_setCell hat3 hC (by decide)
  · rw [List.map_set, List.map_set, h.wm, hwC]
    show (S.map fun c => c.2.2).set i ((WL[i]).1 ++ [x]) = (S.map fun c => c.2.2).set i ((S[i]).2.2 ++ [x])
    rw [hrow]
  · rcases hb with hb | hb | hb | hb | ⟨p, hp, hb⟩
    · exact .inl (.inl hb)
    · exact .inl (.inr (.inl hb))
    · exact .inl (.inr (.inr (.inl hb)))
    · exact .inl (.inr (.inr (.inr (.inl hb))))
    · rcases List.mem_or_eq_of_mem_set hp with h1 | rfl
      · exact .inl (.inr (.inr (.inr (.inr ⟨p, h1, hb⟩))))
      · rcases hat with e | e
        · exact .inl (.inr (.inr (.inr (.inr ⟨_, hmem, by rw [← e]; exact hb⟩))))
        · have hb2 : v'.ownBlock = some b := hb
          rw [e] at hb2
          injection hb2 with hb2
          exact .inr (by rw [← hb2]; exact hs.size)
set_option maxHeartbeats 1000000 in
theorem rwait_no {D r : Nat} {av gv wv : Value} {S : List TCall} {GL : List (List Atm × Value)} {WL : List (List Int × Value)} (i x : Int) (w : World) (h : RefAt w D r av gv wv S GL WL) (hi : i < 0 ∨ (S.length : Int) ≤ i) :
    Calls Tryz.prog 14 #[.pointer (some ⟨r, 0, none⟩), .int .i64 i, .int .i64 x] w fun e w' => e = .returned (.int .i64 13) ∧ Since w w' := by
  have HIS := Lib.hid (ris_no i w h hi)
  clear h hi
  go_enter Tryz.func14, Tryz.ntmps14
  go_wp2_with fail
  refine HIS.out.mono ?_
  rintro e w2 ⟨rfl, hb⟩
  go_wp2_with fail
  go_ret
  exact ⟨rfl, hb⟩
set_option maxHeartbeats 8000000 in
set_option maxRecDepth 100000 in
theorem rwait_yes {D r : Nat} {av gv wv : Value} {S : List TCall} {GL : List (List Atm × Value)} {WL : List (List Int × Value)} (i : Nat) (x : Int) (w : World) (h : RefAt w D r av gv wv S GL WL) (hi : i < S.length) (hl : (S[i]).2.2.length < 100000) (hD : D ≤ w.heap.size) :
    Calls Tryz.prog 14 #[.pointer (some ⟨r, 0, none⟩), .int .i64 (i : Int), .int .i64 x] w fun e w' => e = .returned (.int .i64 0) ∧ ∃ WL', RefAt w' D r av gv wv (S.set i (waitC S[i] x)) GL WL' ∧ (∀ b, RefB r av gv wv GL WL' b → RefB r av gv wv GL WL b ∨ w.heap.size ≤ b) ∧ Keep (RefB r av gv wv GL WL) w w' := by
  have HIS := Lib.hid (ris_yes i w h hi)
  have hiL : i < WL.length := by rw [h.wlen]; exact hi
  obtain ⟨gb, gcap, cur, e1, e2, e3, e4⟩ := h.who.at hiL
  have hrow : (WL[i]).1 = (S[i]).2.2 := by
    have h2 := congrArg (fun l => l[i]?) h.wm
    simp only [List.getElem?_map, List.getElem?_eq_getElem hiL, List.getElem?_eq_getElem hi, Option.map_some] at h2
    injection h2
  have hin := h.who.inner hiL
  have hvb : wv.ownBlock = some gb := by rw [e1]; rfl
  have HWD : Hid (∀ (Wa W3 : World) (v' : Value), Since w Wa → Wa.grownBy W3 (WL[i]).2.ownBlock → posF (WL[i]).1 x 0 = none → W3.ownsRow D 3 1 v' ((WL[i]).1.length + 1) ((WL[i]).1.flatMap intV1 ++ [.int .i64 x]) → (v'.ownBlock = (WL[i]).2.ownBlock ∨ v'.ownBlock = some Wa.heap.size) → ∃ WL', RefAt (W3.setCell ⟨gb, 0 + i, none⟩ v') D r av gv wv (S.set i (waitC S[i] x)) GL WL' ∧ (∀ b, RefB r av gv wv GL WL' b → RefB r av gv wv GL WL b ∨ w.heap.size ≤ b) ∧ Keep (RefB r av gv wv GL WL) w (W3.setCell ⟨gb, 0 + i, none⟩ v')) :=
    fun Wa W3 v' y1 y2 y3 y4 y5 => h.waited hi hiL x hvb y1 y2 y4 y5 (by rw [← hrow]; exact y3)
  have HSM : Hid (∀ w' : World, Since w w' → (posF (WL[i]).1 x 0).isSome = true → ∃ WL', RefAt w' D r av gv wv (S.set i (waitC S[i] x)) GL WL' ∧ (∀ b, RefB r av gv wv GL WL' b → RefB r av gv wv GL WL b ∨ w.heap.size ≤ b) ∧ Keep (RefB r av gv wv GL WL) w w') :=
    fun w' hs e => ⟨WL, by rw [waitC, ← hrow, if_pos e, List.set_getElem_self]; exact h.next hs, fun _ hb => .inl hb, Keep.of_since hs⟩
  have r0 : w.cell? ⟨r, 2, none⟩ = some wv := h.cel.cell 2
  rw [← hrow] at hl
  have HRG : Hid (some r ≠ some gb) := fun e => cel_cel_ne h.cel e3 (by decide) (by injection e)
  have HRN : Hid (∀ (W : World) (xs : List Value), Since w W → W.ownsRow D 3 1 (WL[i]).2 (WL[i]).1.length xs → some r ≠ (WL[i]).2.ownBlock) := fun W xs hs hr => cel_own_ne (h.cel.next hs) hr (by decide)
  obtain ⟨Q, hQ⟩ : ∃ Q : World → Prop, Hid (Q = fun w' => ∃ WL', RefAt w' D r av gv wv (S.set i (waitC S[i] x)) GL WL' ∧ (∀ b, RefB r av gv wv GL WL' b → RefB r av gv wv GL WL b ∨ w.heap.size ≤ b) ∧ Keep (RefB r av gv wv GL WL) w w') := ⟨fun w' => ∃ WL', RefAt w' D r av gv wv (S.set i (waitC S[i] x)) GL WL' ∧ (∀ b, RefB r av gv wv GL WL' b → RefB r av gv wv GL WL b ∨ w.heap.size ≤ b) ∧ Keep (RefB r av gv wv GL WL) w w', rfl⟩
  have hQ2 : ∀ w', (∃ WL', RefAt w' D r av gv wv (S.set i (waitC S[i] x)) GL WL' ∧ (∀ b, RefB r av gv wv GL WL' b → RefB r av gv wv GL WL b ∨ w.heap.size ≤ b) ∧ Keep (RefB r av gv wv GL WL) w w') = Q w' := fun w' => by rw [hQ.out]
  simp only [hQ2] at HWD HSM ⊢
  clear hQ hQ2 hrow hvb
  subst e1
  obtain ⟨L, hL⟩ : ∃ L, Hid (L = (WL[i]).1) := ⟨(WL[i]).1, rfl⟩
  obtain ⟨u, hu⟩ : ∃ u, Hid (u = (WL[i]).2) := ⟨(WL[i]).2, rfl⟩
  rw [← hL.out] at hl
  rw [← hL.out, ← hu.out] at hin
  simp only [← hL.out, ← hu.out] at HWD HSM HRN
  rw [← hu.out] at e4
  obtain ⟨n, hn⟩ : ∃ n, Hid (n = WL.length) := ⟨_, rfl⟩
  rw [← hn.out] at r0 hiL
  clear hL hu h hi hn
  obtain ⟨ra, rc, rfl⟩ : ∃ a c, u = .slice a L.length c := own_slice hin
  have HIR := Lib.hid (own_irow1 hin)
  have HO := Lib.hid hin
  have HC := Lib.hid e3
  have HE4 : Hid ((cur[0 + i]?).isSome = true) := by show _ = _; rw [Nat.zero_add, e4]; rfl
  have c0 : w.cell? ⟨gb, i, none⟩ = some (.slice ra L.length rc) := (e3.cell i).trans e4
  have hi1 : (i : Int) < (n : Int) := by omega
  have hi2 : (0 : Int) ≤ (i : Int) := by omega
  obtain ⟨i3, hi3, hz0, hz1, hz2⟩ := info_parts info_ints
  have I3 := Lib.hid (And.intro hi3 (And.intro hz0 (And.intro hz1 hz2)))
  clear hin e2 e3 e4 hi3 hz0 hz1 hz2
  go_enter Tryz.func14, Tryz.ntmps14
  go_wp2_with fail
  refine HIS.out.mono ?_
  rintro e w2 ⟨rfl, hS2⟩
  clear HIS
  go_wp2_with fail
  go_loopw [7] (fun m wr => ∃ j : Nat, j ≤ L.length ∧ m = .int .i64 (j : Int) ∧ Since w wr ∧ Hid ((posF (L.take j) x 0).isSome = false)) (fun m _ => L.length - (intOf m).toNat)
  case atStart => exact ⟨0, Nat.zero_le _, rfl, hS2, rfl⟩
  case round =>
  rename World => w3
  clear hS2
  obtain ⟨j, hj, rfl, hS3, hno⟩ := hrel
  have r3 := hS3.cell r0
  have c3 := hS3.cell c0
  by_cases hlt : j < L.length
  · have hlt2 : (j : Int) < (L.length : Int) := by omega
    have hlt0 : (0 : Int) ≤ (j : Int) := by omega
    have hpm := pos_more (x := x) hlt
    rw [hno.out] at hpm
    have HPM := Lib.hid hpm
    obtain ⟨rb, ro, er, hcr, hatr⟩ := HIR.out.get (by omega)
    have t1 := hatr j hlt
    obtain ⟨z, hzq⟩ : ∃ z, Hid (z = L[j]) := ⟨L[j], rfl⟩
    rw [← hzq.out] at t1 HPM
    have z3 : w3.cell? ⟨rb, ro + j, none⟩ = some (.int .i64 z) := hS3.cell (by simpa [IntAt] using t1)
    subst er
    clear hatr t1 hpm
    cases hq9 : (z == x)
    case false =>
      go_wp2_with fail
      go_roundw
      case rel => exact ⟨j + 1, by omega, by go_num, hS3, by rw [HPM.out, hq9]; rfl⟩
      case measure => simp [intOf]; omega
    case true =>
      have hfin : Hid ((posF L x 0).isSome = true) := by
        show _ = _
        rw [hq9] at HPM
        cases hp : posF (L.take (j + 1)) x 0 with
        | none => have := HPM.out; rw [hp] at this; cases this
        | some q =>
          have h9 := posF_append (S := L.drop (j + 1)) hp
          rw [List.take_append_drop] at h9
          rw [h9]; rfl
      go_wp2_with fail
      go_ret
      exact ⟨rfl, HSM.out _ hS3 hfin.out⟩
  have hlt2 : ¬ (j : Int) < (L.length : Int) := by omega
  rw [List.take_of_length_le (by omega)] at hno
  have hpn : Hid (posF L x 0 = none) := by
    show _ = _
    cases hh : posF L x 0 with
    | none => rfl
    | some _ => have := hno.out; rw [hh] at this; cases this
  go_wp2_with fail
  have rA : At w3 r 2 #[.slice (some ⟨gb, 0, none⟩) n gcap] := At.one r3
  have hCI : CellIs w3 gb (0 + i) (.slice ra L.length rc) := by show _ = _; rw [Nat.zero_add]; exact c3
  have hO := own_since HO.out hS3
  have hC := HC.out.next hS3
  have hN := hS3
  clear r3 c3 hno
  replace hCI := hCI.next ((Since.refl w3).drew)
  replace hO := own_since hO ((Since.refl w3).drew)
  replace hC := hC.next ((Since.refl w3).drew)
  replace hN := hN.trans ((Since.refl w3).drew)
  replace rA := rA.next ((Since.refl w3).drew)
  refine hx_begin (S := fun W => (At W r 2 #[.slice (some ⟨gb, 0, none⟩) n gcap])) (by kernel_rfl) rA (by kernel_rfl) (fun _ _ _ _ _ h => h) (fun hns hQ => ?_)
  refine hx_take (i := 0) (oi := _) (v := .pointer (some ⟨r, 0, none⟩)) rfl rfl hns (by kernel_rfl) (by kernel_rfl) hQ (by kernel_rfl) (fun _ _ => by kernel_rfl) rA ?_
  refine hx_take (i := 1) (oi := _) (v := .pointer (some ⟨r, 0, none⟩)) rfl rfl hns (by kernel_rfl) (by kernel_rfl) hQ (by kernel_rfl) (fun _ _ => by kernel_rfl) rA ?_
  refine hx_take (i := 2) (oi := _) (v := .pointer (some ⟨r, 2, none⟩)) rfl rfl hns (by kernel_rfl) (by kernel_rfl) hQ (by kernel_rfl) (fun _ _ => by kernel_rfl) rA ?_
  refine hx_take (i := 3) (oi := _) (v := .slice (some ⟨gb, 0, none⟩) n gcap) rfl rfl hns (by kernel_rfl) (by kernel_rfl) hQ (by kernel_rfl) (fun W hW => ld_one rfl (by kernel_rfl) (by kernel_rfl) W (hW 0 _ rfl)) rA ?_
  refine hx_take (i := 4) (oi := _) (v := .int .i64 (i : Int)) rfl rfl hns (by kernel_rfl) (by kernel_rfl) hQ (by kernel_rfl) (fun _ _ => by kernel_rfl) rA ?_
  refine hx_take (i := 5) (oi := _) (v := .pointer (some ⟨r, 0, none⟩)) rfl rfl hns (by kernel_rfl) (by kernel_rfl) hQ (by kernel_rfl) (fun _ _ => by kernel_rfl) rA ?_
  refine hx_take (i := 6) (oi := _) (v := .pointer (some ⟨r, 0, none⟩)) rfl rfl hns (by kernel_rfl) (by kernel_rfl) hQ (by kernel_rfl) (fun _ _ => by kernel_rfl) rA ?_
  refine hx_take (i := 7) (oi := _) (v := .pointer (some ⟨r, 2, none⟩)) rfl rfl hns (by kernel_rfl) (by kernel_rfl) hQ (by kernel_rfl) (fun _ _ => by kernel_rfl) rA ?_
  refine hx_take (i := 8) (oi := _) (v := .slice (some ⟨gb, 0, none⟩) n gcap) rfl rfl hns (by kernel_rfl) (by kernel_rfl) hQ (by kernel_rfl) (fun W hW => ld_one rfl (by kernel_rfl) (by kernel_rfl) W (hW 0 _ rfl)) rA ?_
  refine hx_take (i := 9) (oi := _) (v := .int .i64 (i : Int)) rfl rfl hns (by kernel_rfl) (by kernel_rfl) hQ (by kernel_rfl) (fun _ _ => by kernel_rfl) rA ?_
  refine hx_take (i := 10) (oi := _) (v := .pointer (some ⟨gb, 0 + i, none⟩)) rfl rfl hns (by kernel_rfl) (by kernel_rfl) hQ (by kernel_rfl) (fun W _ => ix_sl1 (n := n) (c := gcap) rfl (by kernel_rfl) (by kernel_rfl) (by kernel_rfl) rfl hiL W) rA ?_
  refine hx_take (i := 12) (oi := _) (v := .int .i64 x) rfl rfl hns (by kernel_rfl) (by kernel_rfl) hQ (by kernel_rfl) (fun _ _ => by kernel_rfl) rA ?_
  refine hx_two_vv (i := 11) (j := 13) (.slice ra L.length rc) (w3.drew) (.slice (some ⟨w3.drew.heap.size, 0, none⟩) 1 1) ((w3.drew.alloc (.cells #[.int .i64 x] 3))) rfl rfl (by kernel_rfl) (by kernel_rfl) (by kernel_rfl) rfl (ld_one rfl (by kernel_rfl) (by kernel_rfl) w3.drew (hCI.cell 0)) rA rfl (by kernel_rfl) (rA.next ((Since.refl w3.drew).alloc (.cells #[.int .i64 x] 3))) ?_ ?_
  · refine hx_make (i := 13) (oi := _) (.slice (some ⟨w3.drew.heap.size, 0, none⟩) 1 1) (w3.drew.alloc (.cells #[.int .i64 x] 3)) rfl rfl (by kernel_rfl) (by kernel_rfl) (by kernel_rfl) (rA.next ((Since.refl w3.drew).alloc (.cells #[.int .i64 x] 3))) ?_
    replace rA := rA.next ((Since.refl w3.drew).alloc (.cells #[.int .i64 x] 3))
    replace hCI := hCI.next ((Since.refl w3.drew).alloc (.cells #[.int .i64 x] 3))
    replace hO := own_since hO ((Since.refl w3.drew).alloc (.cells #[.int .i64 x] 3))
    replace hC := hC.next ((Since.refl w3.drew).alloc (.cells #[.int .i64 x] 3))
    replace hN := hN.trans ((Since.refl w3.drew).alloc (.cells #[.int .i64 x] 3))
    refine hx_append (i := 14) (oi := _) (.tmp 47) (.tmp 49) 54 D 3 i3 (.int .i64 0) 1 8 (.slice ra L.length rc) L.length _ _ (some ⟨w3.drew.heap.size, 0, none⟩) 1 1 [.int .i64 x] rfl rfl (by kernel_rfl) (by kernel_rfl) rfl Tryz.underlying54 I3.out.1 I3.out.2.1 I3.out.2.2.1 I3.out.2.2.2 rfl (by decide) (by kernel_rfl) hO (by kernel_rfl) (reads_new _ #[.int .i64 x] _ 1 rfl) (by simp [Value.oneCell']) (by unfold maxLen; omega) (by omega) (Nat.le_trans hD hN.size) ?_
    intro v14 w14 hown4 hg4 hat4
    have rA14 : At w14 r 2 #[.slice (some ⟨gb, 0, none⟩) n gcap] := rA.far hg4 (HRN.out _ _ hN hO)
    obtain ⟨a4, c4, rfl⟩ := own_slice hown4
    have hX9 := HWD.out _ _ _ hN hg4 hpn.out hown4 hat4
    replace hC := cel_own hC hO (by decide) hg4
    clear hO hg4 hat4 hown4 hN rA
    have rA := rA14
    refine ⟨rA14, ?_⟩
    refine hx_take (i := 15) (oi := _) (v := .pointer (some ⟨gb, 0 + i, none⟩)) rfl rfl hns (by kernel_rfl) (by kernel_rfl) hQ (by kernel_rfl) (fun W _ => ix_sl1 (n := n) (c := gcap) rfl (by kernel_rfl) (by kernel_rfl) (by kernel_rfl) rfl hiL W) rA ?_
    have rA15 : At (w14.setCell ⟨gb, 0 + i, none⟩ (.slice a4 (L.length + 1) c4)) r 2 #[.slice (some ⟨gb, 0, none⟩) n gcap] := rA14.far (grown_setCell w14 gb (0 + i) (.slice a4 (L.length + 1) c4)) HRG.out
    refine hx_store (i := 16) (oi := _) (w14.setCell ⟨gb, 0 + i, none⟩ (.slice a4 (L.length + 1) c4)) rfl rfl (by kernel_rfl) (by kernel_rfl) (st_ints rfl (by kernel_rfl) (by kernel_rfl) _ hC HE4.out) rA15 ?_
    refine wpAnyH_done (by kernel_rfl) ?_ _
    clear hns hQ
    simp only [List.set_cons_zero, List.set_cons_succ]
    clear hC rA rA14 rA15
    go_wp2_with fail
    go_ret
    exact ⟨rfl, hX9⟩
  · replace rA := rA.next ((Since.refl w3.drew).alloc (.cells #[.int .i64 x] 3))
    replace hCI := hCI.next ((Since.refl w3.drew).alloc (.cells #[.int .i64 x] 3))
    replace hO := own_since hO ((Since.refl w3.drew).alloc (.cells #[.int .i64 x] 3))
    replace hC := hC.next ((Since.refl w3.drew).alloc (.cells #[.int .i64 x] 3))
    replace hN := hN.trans ((Since.refl w3.drew).alloc (.cells #[.int .i64 x] 3))
    refine hx_make (i := 11) (oi := _) (.slice ra L.length rc) (w3.drew.alloc (.cells #[.int .i64 x] 3)) rfl rfl (by kernel_rfl) (by kernel_rfl) (ld_one rfl (by kernel_rfl) (by kernel_rfl) (w3.drew.alloc (.cells #[.int .i64 x] 3)) (hCI.cell 0)) rA ?_
    refine hx_append (i := 14) (oi := _) (.tmp 47) (.tmp 49) 54 D 3 i3 (.int .i64 0) 1 8 (.slice ra L.length rc) L.length _ _ (some ⟨w3.drew.heap.size, 0, none⟩) 1 1 [.int .i64 x] rfl rfl (by kernel_rfl) (by kernel_rfl) rfl Tryz.underlying54 I3.out.1 I3.out.2.1 I3.out.2.2.1 I3.out.2.2.2 rfl (by decide) (by kernel_rfl) hO (by kernel_rfl) (reads_new _ #[.int .i64 x] _ 1 rfl) (by simp [Value.oneCell']) (by unfold maxLen; omega) (by omega) (Nat.le_trans hD hN.size) ?_
    intro v14 w14 hown4 hg4 hat4
    have rA14 : At w14 r 2 #[.slice (some ⟨gb, 0, none⟩) n gcap] := rA.far hg4 (HRN.out _ _ hN hO)
    obtain ⟨a4, c4, rfl⟩ := own_slice hown4
    have hX9 := HWD.out _ _ _ hN hg4 hpn.out hown4 hat4
    replace hC := cel_own hC hO (by decide) hg4
    clear hO hg4 hat4 hown4 hN rA
    have rA := rA14
    refine ⟨rA14, ?_⟩
    refine hx_take (i := 15) (oi := _) (v := .pointer (some ⟨gb, 0 + i, none⟩)) rfl rfl hns (by kernel_rfl) (by kernel_rfl) hQ (by kernel_rfl) (fun W _ => ix_sl1 (n := n) (c := gcap) rfl (by kernel_rfl) (by kernel_rfl) (by kernel_rfl) rfl hiL W) rA ?_
    have rA15 : At (w14.setCell ⟨gb, 0 + i, none⟩ (.slice a4 (L.length + 1) c4)) r 2 #[.slice (some ⟨gb, 0, none⟩) n gcap] := rA14.far (grown_setCell w14 gb (0 + i) (.slice a4 (L.length + 1) c4)) HRG.out
    refine hx_store (i := 16) (oi := _) (w14.setCell ⟨gb, 0 + i, none⟩ (.slice a4 (L.length + 1) c4)) rfl rfl (by kernel_rfl) (by kernel_rfl) (st_ints rfl (by kernel_rfl) (by kernel_rfl) _ hC HE4.out) rA15 ?_
    refine wpAnyH_done (by kernel_rfl) ?_ _
    clear hns hQ
    simp only [List.set_cons_zero, List.set_cons_succ]
    clear hC rA rA14 rA15
    go_wp2_with fail
    go_ret
    exact ⟨rfl, hX9⟩
end Go.Proofs.YtbgdljcgbhhfdaaGreatDoor
