/- A range over an iterator that keeps state in two blocks of its own: each round goes on; what the caller's invariant says when all has come. -/
import Derived.Test.YtfbkddpapjpgbaaLexE
namespace Go.Proofs.Ytfbkddpapjpgbaa
open Go.RowKit Go.Shelf

/-- Four blocks lie as they lay: the loop's two, the iterator's two. -/
def KeepsFour (D b : Nat) (A B : World) : Prop := A.heap.size ≤ B.heap.size ∧ ∀ k, (k = D ∨ k = D + 1 ∨ k = b ∨ k = b + 1) → k < A.heap.size → B.heap[k]? = A.heap[k]?
theorem KeepsFour.trans {D b : Nat} {A B C : World} (h : KeepsFour D b A B) (k : KeepsFour D b B C) : KeepsFour D b A C :=
  ⟨Nat.le_trans h.1 k.1, fun i hi hl => (k.2 i hi (Nat.lt_of_lt_of_le hl h.1)).trans (h.2 i hi hl)⟩
theorem KeepsFour.grown {D b : Nat} {A B : World} {row : Option Nat} (hg : A.grownBy B row) (hr : ∀ r, row = some r → r ≠ D ∧ r ≠ D + 1 ∧ r ≠ b ∧ r ≠ b + 1) : KeepsFour D b A B :=
  ⟨hg.size, fun k hk hl => hg.block k hl (fun e => by obtain ⟨h1, h2, h3, h4⟩ := hr k e.symm; rcases hk with h | h | h | h <;> contradiction)⟩
theorem KeepsFour.at {D b k : Nat} {A B : World} {o : Obj} (h : KeepsFour D b A B) (hk : k = D ∨ k = D + 1 ∨ k = b ∨ k = b + 1) (ho : A.heap[k]? = some o) : B.heap[k]? = some o := (h.2 k hk (Array.getElem?_eq_some_iff.1 ho).1).trans ho
/-- How a round's body is left. -/
def goesOn {α : Type} (D : Nat) (I : Nat → List α → World → Prop) (b : Nat) (pre : List α) (A : World) (e : Exit) (_ : Act) (B : World) : Prop :=
  match e with
  | .normal => KeepsFour D b A B ∧ I b pre B
  | _ => False
theorem range_own {P : Program} {n gf N : Nat} {lb : Array Value} {g : Operand} {ps : Array Tmp} {assign body : Code} {Q : Exit → Act → World → Prop} {a : Act} {w : World} (h1 : 1 ≤ n)
    (hg : a.eval g = .func (.func gf) #[] lb) (eg : ∀ args w, (callFunc gf args).run P w = .ok (.enter gf args) w) {α : Type} {encs : α → Array Value} (hps : ∀ x, (encs x).size = ps.size) {xs : List α}
    (it : ∀ (l : Nat) (J : Nat → List α → World → Prop) (W : World), (∀ b pre A B row, J b pre A → World.grownBy A B row → (row = none ∨ row = some (b + 1)) → J b pre B) →
      (∀ b pre x A, J b pre A → b + 1 < A.heap.size → pre.length ≤ N → YieldAt Fence.wide (n - 1 - 1) P l (encs x) A fun e A' => e = .returned (.bool true) ∧ J b (pre ++ [x]) A' ∧ KeepsTwo b A A') →
      World.grownBy w W none → J W.heap.size [] W → CallsIn Fence.wide (n - 1) P gf (#[.func (.yield l) #[] #[]] ++ lb) W fun e W' => (∃ v, e = .returned v) ∧ ∃ b, J b xs W')
    (I : Nat → List α → World → Prop)
    (hI : ∀ b pre A B row, I b pre A → World.grownBy A B row → (∀ r, row = some r → r = b + 1 ∨ r = w.heap.size ∨ r = w.heap.size + 1) → I b pre B)
    (hfar : ∀ b pre A, I b pre A → w.heap.size + 2 ≤ b)
    (h0 : ∀ W, World.grownBy w W none → W.heap.size = w.heap.size + 2 → I W.heap.size [] W)
    (hround : ∀ (l b : Nat) (pre : List α) (x : α) (A : World), I b pre A → b + 1 < A.heap.size → pre.length ≤ N →
      assign.wpIn (Fence.wide.inRound l) (n - 1 - 1) P (Exit.then (fun a1 A1 => KeepsFour w.heap.size b A A1 ∧ ∀ A2, World.grownBy A1 A2 (some (w.heap.size + 1)) → A2.heap.size = A1.heap.size →
        body.wpIn (Fence.wide.inRound l) (n - 1 - 1) P (goesOn w.heap.size I b (pre ++ [x]) A2) a1 A2) (fun _ _ _ => False)) { tmps := (ps.zip (encs x)).foldl (fun t (p, v) => t.setIfInBounds p v) a.tmps, defers := [] } A)
    (hdone : ∀ (b : Nat) (W : World), I b xs W → W.heap[w.heap.size]? = some (.deferred (some [])) → Q .normal { a with defers := { target := .collected w.heap.size, args := #[] } :: a.defers } W) :
    (Code.rangeFunc g ps assign body).wpIn Fence.wide n P Q a w := by
  refine wpIn_rangeFunc fun fn _ => ?_
  obtain ⟨rc, hrc⟩ : ∃ rc : Loop, rc = { state := .ready, pending := none, fn, tmps := a.tmps, params := ps, assign, body, defers := w.heap.size } := ⟨_, rfl⟩
  have hsz : ((w.alloc (.deferred (some []))).alloc (.loop rc)).heap.size = w.heap.size + 2 := by simp
  have hl1 : ((w.alloc (.deferred (some []))).alloc (.loop rc)).heap[w.heap.size + 1]? = some (.loop rc) := by
    have := World.alloc_heap_new (w.alloc (.deferred (some []))) (.loop rc)
    rwa [World.size_alloc] at this
  have hk1 : ((w.alloc (.deferred (some []))).alloc (.loop rc)).heap[w.heap.size]? = some (.deferred (some [])) := blk_alloc (World.alloc_heap_new w _) _
  have hg1 : World.grownBy w ((w.alloc (.deferred (some []))).alloc (.loop rc)) none := grown_alloc (grown_alloc (World.grownBy.refl w _) _) _
  refine ⟨w.heap.size + 1, [{ target := .collected w.heap.size, args := #[] }], (w.alloc (.deferred (some []))).alloc (.loop rc), { target := .fn (.func gf) lb, args := #[.func (.yield (w.heap.size + 1)) #[] #[]] }, (w.alloc (.deferred (some []))).alloc (.loop rc), gf,
    #[.func (.yield (w.heap.size + 1)) #[] #[]] ++ lb, (w.alloc (.deferred (some []))).alloc (.loop rc), ?_, ?_, fun _ _ => trivial, ?_, fun _ => h1, ?_⟩
  · rw [hrc]; exact run_enterLoop_outer _ _ _ _ _
  · simp only [resolve, hg]
    simp [go_sem]
  · simp [invoke, go_sem, eg]
  generalize (w.alloc (.deferred (some []))).alloc (.loop rc) = W1 at *
  refine (it (w.heap.size + 1) (fun b pre A => I b pre A ∧ A.heap[w.heap.size + 1]? = some (.loop rc) ∧ A.heap[w.heap.size]? = some (.deferred (some []))) W1 ?_ ?_ hg1 ⟨h0 W1 hg1 hsz, hl1, hk1⟩).mono ?_
  · rintro b pre A B row ⟨hi, hl, hk⟩ hgr hrow
    have hf := hfar _ _ _ hi
    have far : ∀ k, k < w.heap.size + 2 → some k ≠ row := fun k hk' e => by rcases hrow with h | h <;> rw [h] at e <;> cases e; omega
    exact ⟨hI b pre A B row hi hgr (fun r e => by rcases hrow with h | h <;> rw [h] at e <;> cases e; exact .inl rfl), (hgr.block _ (Array.getElem?_eq_some_iff.1 hl).1 (far _ (by omega))).trans hl, (hgr.block _ (Array.getElem?_eq_some_iff.1 hk).1 (far _ (by omega))).trans hk⟩
  · rintro b pre x A ⟨hi, hl, hk⟩ hb hlen
    have hf := hfar _ _ _ hi
    have hy := run_yield (P := P) (args := encs x) hl (by rw [hrc]; exact hps x)
    rw [hrc] at hy
    refine ⟨fn, _, assign, body, hy, roundIn_of_wpIn trivial (wpIn_mono (hround _ b pre x A hi hb hlen) ?_)⟩
    rintro e a1 A1 he
    cases e with
    | normal =>
      obtain ⟨hk4, hbody⟩ := he
      have hl1' := hk4.at (.inr (.inl rfl)) hl
      have hk1' := hk4.at (.inl rfl) hk
      have hlt1 := (Array.getElem?_eq_some_iff.1 hl1').1
      refine ⟨_, run_beginRound hl1' (by rw [hrc]), wpIn_mono (hbody _ (grownBy_putObj' A1 _ _) (by simp)) ?_⟩
      have hl2 : (A1.putObj (w.heap.size + 1) (.loop { rc with state := .busy })).heap[w.heap.size + 1]? = some (.loop { rc with state := .busy }) := World.putObj_heap_same hlt1
      have hk2 : (A1.putObj (w.heap.size + 1) (.loop { rc with state := .busy })).heap[w.heap.size]? = some (.deferred (some [])) := (World.putObj_heap_other (by omega)).trans hk1'
      rintro e a3 A3 hp
      cases e with
      | normal =>
        obtain ⟨hk5, hi5⟩ := hp
        have hl3 := hk5.at (.inr (.inl rfl)) hl2
        have hk3 := hk5.at (.inl rfl) hk2
        have hend := run_endRound (P := P) none hl3
        have hrc2 : ({ { rc with state := .busy } with state := if (none : Option Code).isNone then .ready else .done, pending := none } : Loop) = rc := by rw [hrc]; rfl
        rw [hrc2] at hend
        refine ⟨_, _, hend, rfl, ⟨hI b _ A3 _ _ hi5 (grownBy_putObj' A3 _ _) (fun r e => by cases e; exact .inr (.inr rfl)), World.putObj_heap_same (Array.getElem?_eq_some_iff.1 hl3).1, (World.putObj_heap_other (by omega)).trans hk3⟩, ?_, ?_⟩
        · rw [World.putObj_size]
          have h6 := hk5.1
          rw [World.putObj_size] at h6
          exact Nat.le_trans hk4.1 h6
        · intro k hk' hlt
          have hne : k ≠ w.heap.size + 1 := by omega
          have hk'' : k = w.heap.size ∨ k = w.heap.size + 1 ∨ k = b ∨ k = b + 1 := .inr (.inr hk')
          rw [World.putObj_heap_other hne, hk5.2 k hk'' (by rw [World.putObj_size]; exact Nat.lt_of_lt_of_le hlt hk4.1), World.putObj_heap_other hne, hk4.2 k hk'' hlt]
      | ret => exact hp.elim
      | exit id => exact hp.elim
      | goto t => exact hp.elim
      | panic ch => exact hp.elim
      | outgrown => exact hp.elim
    | ret => exact he.elim
    | exit id => exact he.elim
    | goto t => exact he.elim
    | panic ch => exact he.elim
    | outgrown => exact he.elim
  · rintro e W2 ⟨⟨v, rfl⟩, b, hi, hl, hk⟩
    refine ⟨none, _, by have := run_endLoop (P := P) hl (by rw [hrc]; simp); rw [this, hrc], ?_⟩
    exact hdone b _ (hI b _ W2 _ _ hi (grownBy_putObj' W2 _ _) (fun r e => by cases e; exact .inr (.inr rfl))) ((World.putObj_heap_other (by omega)).trans hk)
end Go.Proofs.Ytfbkddpapjpgbaa
