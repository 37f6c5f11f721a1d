/- A region that draws its order, walked by what each of its operations keeps. -/
import Derived.Test.YtbgdljcgbhhfdaaGreatDoorCel
import Derived.Test.YtbgdljcgbhhfdaaGreatDoorRow
import Derived.RegionTactic
import Derived.Laws.Tables
namespace Go.Proofs.YtbgdljcgbhhfdaaGreatDoor
open Go.RowKit

section
variable {P : Program} {ops : Array Oper} {Q : Exit → Act → World → Prop} {md : Region.Mode}
/-- What one operation keeps. -/
def StepOK (P : Program) (md : Region.Mode) (ops : Array Oper) (Q : Exit → Act → World → Prop) (J : Array Bool → Act → World → Prop) (k : Nat) (o : Oper) : Prop :=
  ∀ (L : Array Bool) (a : Act) (w : World), J L a w → k < L.size → L.getD k false = false → (o.after.toList.all fun e => !Region.binds md e || L.getD e.on false) = true →
    ∀ K' : Act → World → Prop, (∀ a w, J (L.setIfInBounds k true) a w → K' a w) → if Region.wanted o (yielded ops a.tmps) = true then Oper.wp P o a w K' Q else K' (a.put o.dst undef) w
theorem stepOK_plain {J : Array Bool → Act → World → Prop} {k : Nat} {o : Oper} (hg : o.guard = none)
    (h : ∀ (L : Array Bool) (a : Act) (w : World), J L a w → k < L.size → L.getD k false = false → (o.after.toList.all fun e => !Region.binds md e || L.getD e.on false) = true →
      ∀ K' : Act → World → Prop, (∀ a w, J (L.setIfInBounds k true) a w → K' a w) → Oper.wp P o a w K' Q) : StepOK P md ops Q J k o := by
  intro L a w hJ h1 h2 h3 K' hK
  rw [if_pos (show Region.wanted o (yielded ops a.tmps) = true by unfold Region.wanted; rw [hg])]
  exact h L a w hJ h1 h2 h3 K' hK
def StepsOK (P : Program) (md : Region.Mode) (ops : Array Oper) (Q : Exit → Act → World → Prop) (J : Array Bool → Act → World → Prop) : List Oper → Nat → Prop
  | [], _ => True
  | o :: l, k => StepOK P md ops Q J k o ∧ StepsOK P md ops Q J l (k + 1)
theorem steps_get {J : Array Bool → Act → World → Prop} : ∀ {l : List Oper} {k j : Nat} {o : Oper}, StepsOK P md ops Q J l k → l[j]? = some o → StepOK P md ops Q J (k + j) o
  | [], _, _, _, _, h => by cases h
  | o :: l, k, 0, _, hs, h => by cases h; exact hs.1
  | o :: l, k, j + 1, _, hs, h => by
    have := steps_get (j := j) hs.2 (by simpa using h)
    rw [show k + (j + 1) = k + 1 + j by omega]
    exact this
/-- Each operation waits for earlier ones alone. -/
def backB (md : Region.Mode) : List Oper → Nat → Bool
  | [], _ => true
  | o :: l, k => (o.after.toList.all fun e => !Region.binds md e || decide (e.on < k)) && backB md l (k + 1)
theorem back_get : ∀ {l : List Oper} {k j : Nat} {o : Oper}, backB md l k = true → l[j]? = some o → ∀ e ∈ o.after, Region.binds md e = true → e.on < k + j
  | [], _, _, _, _, h => by cases h
  | o :: l, k, 0, _, hb, h => by
    cases h
    unfold backB at hb
    rw [Bool.and_eq_true, List.all_eq_true] at hb
    exact fun e he hbd => by
      have := hb.1 e (by simpa using he)
      rw [hbd] at this
      exact of_decide_eq_true (by simpa using this)
  | o :: l, k, j + 1, _, hb, h => by
    unfold backB at hb
    rw [Bool.and_eq_true] at hb
    intro e he hbd
    have := back_get (j := j) hb.2 (by simpa using h) e he hbd
    omega
theorem ready_none {l : List Oper} (hb : backB md l 0 = true) {L : Array Bool} (hs : L.size = l.length) (hr : Region.ready md l.toArray L = []) : ∀ k, k < l.length → L.getD k false = true := by
  intro k
  induction k using Nat.strongRecOn with
  | _ k ih =>
    intro hk
    cases hc : L.getD k false with
    | true => rfl
    | false =>
      exfalso
      have hm : k ∈ Region.ready md l.toArray L := by
        rw [mem_ready]
        refine ⟨?_, l[k], by simp [hk], fun e he hbd => ?_⟩
        · have : k < L.size := by omega
          simp only [Array.getD, this, dite_true] at hc ⊢
          exact hc
        · have := back_get (j := k) hb (by simp [hk]) e he hbd
          exact ih e.on (by omega) (by omega)
      rw [hr] at hm
      cases hm
theorem wpAny_inv {l : List Oper} {J : Array Bool → Act → World → Prop} (hb : backB md l 0 = true) (hs : StepsOK P md l.toArray Q J l 0)
    (hend : ∀ L a w, J L a w → (∀ k, k < l.length → L.getD k false = true) → Q .normal a w) :
    ∀ (fuel : Nat) (L : Array Bool) (a : Act) (w : World), L.size = l.length → L.toList.count false ≤ fuel → J L a w → wpAny P md l.toArray Q fuel L a w := by
  intro fuel
  induction fuel with
  | zero =>
    intro L a w hl hc hJ
    have hall : ∀ k, k < l.length → L.getD k false = true := by
      intro k hk
      have h0 : L.toList.count false = 0 := by omega
      rw [List.count_eq_zero] at h0
      have hk2 : k < L.size := by omega
      cases hv : L[k] with
      | true => simp [Array.getD, hk2, hv]
      | false => exact absurd (by rw [← hv]; simp) h0
    refine ⟨?_, hend L a w hJ hall⟩
    rw [List.eq_nil_iff_forall_not_mem]
    intro j hj
    obtain ⟨h1, o, ho, _⟩ := mem_ready.1 hj
    have hlt : j < l.length := by simpa using (Array.getElem?_eq_some_iff.1 ho).1
    have h2 := hall j hlt
    have hj2 : j < L.size := by omega
    simp only [Array.getD, hj2, dite_true] at h1 h2
    rw [h1] at h2
    cases h2
  | succ fuel ih =>
    intro L a w hl hc hJ
    refine ⟨fun hr => hend L a w hJ (ready_none hb hl hr), fun i hi => ?_⟩
    obtain ⟨h1, o, ho, hall⟩ := mem_ready.1 hi
    have hlt : i < l.length := by simpa using (Array.getElem?_eq_some_iff.1 ho).1
    have hi2 : i < L.size := by omega
    have h1' : L[i] = false := by simpa [Array.getD, hi2] using h1
    have hst := steps_get hs (show l[i]? = some o by simpa using ho) L a w hJ (by rw [Nat.zero_add]; exact hi2) (by rw [Nat.zero_add]; simp [Array.getD, hi2, h1']) (by
      rw [List.all_eq_true]
      intro e he
      have he' : e ∈ o.after := by simpa using he
      cases hbd : Region.binds md e with
      | false => rfl
      | true => simpa using hall e he' hbd)
    rw [Nat.zero_add] at hst
    refine wpOp_step ho fun K' hK => hst K' fun a' w' hJ' => hK a' w' (ih _ a' w' (by simpa using hl) ?_ hJ')
    rw [Array.toList_setIfInBounds, List.count_set (by simpa using hi2)]
    have : L.toList[i]'(by simpa using hi2) = false := by simpa using h1'
    rw [this, if_pos (by rfl), if_neg (by decide)]
    omega
theorem put_self (a : Act) (d : Nat) : a.put (some d) (a.tmps.getD d undef) = a := by
  unfold Act.put
  have h : a.tmps.setIfInBounds d (a.tmps.getD d undef) = a.tmps := by
    apply Array.ext (by simp)
    intro i h1 h2
    rw [Array.getElem_setIfInBounds]
    split
    · rename_i e
      subst e
      simp [Array.getD, h2]
    · rfl
  simp only [h]
theorem wp_region_inv {id : Nat} {a : Act} {w : World} {l : List Oper} (J : Act → Array Bool → Act → World → Prop) (hm : P.follows .mixedOrders = true) (hb : backB .any l 0 = true) (h0 : ∀ (b : Act) (v : Nat → Value), (∀ d, b.put (some d) (v d) = b) → J b (Array.replicate l.length false) b w.drew)
    (hs : StepsOK P .any l.toArray Q (J a) l 0) (hend : ∀ L a' w', J a L a' w' → (∀ k, k < l.length → L.getD k false = true) → Q .normal a' w') : (Code.region id l.toArray true).wp P Q a w :=
  wp_region_any hm (wpAny_inv hb hs hend _ _ _ _ (by simp) (by simp) (h0 a (fun d => a.tmps.getD d undef) (put_self a)))
theorem wp_ofFalse {o : Oper} {a : Act} {w : World} {K : Act → World → Prop} {Q : Exit → Act → World → Prop} (hh : Oper.wp P o a w K fun _ _ _ => False) : Oper.wp P o a w K Q := by
  unfold Oper.wp at *
  generalize (execOp a.eval o).run P w = r at *
  cases r with
  | ok n w' =>
    cases n <;> simp only [Oper.upon] at hh ⊢ <;>
      first
        | exact hh
        | exact Calls.mono hh (fun e w'' he => by cases e <;> first | exact he | exact he.elim | (obtain ⟨_, _, h⟩ := he; exact h.elim))
  | halt x w' => cases x <;> simp only [Oper.upon] at hh ⊢
/-- A goal that is not looked into. -/
structure Sealed (p : Prop) : Prop where
  out : p
/-- What one unguarded operation keeps, of the slots' values and the world. -/
def StepX (P : Program) (md : Region.Mode) {X : Type} (put : X → Act) (F : X → Array Bool → World → Prop) (k : Nat) (o : Oper) : Prop :=
  o.guard = none ∧ ∀ (L : Array Bool) (x : X) (w : World), F x L w → k < L.size → L.getD k false = false → (o.after.toList.all fun e => !Region.binds md e || L.getD e.on false) = true →
    ∀ K' : Act → World → Prop, (∀ x w, F x (L.setIfInBounds k true) w → K' (put x) w) → Sealed (Oper.wp P o (put x) w K' fun _ _ _ => False)
def StepsX (P : Program) (md : Region.Mode) {X : Type} (put : X → Act) (F : X → Array Bool → World → Prop) : List Oper → Nat → Prop
  | [], _ => True
  | o :: l, k => StepX P md put F k o ∧ StepsX P md put F l (k + 1)
theorem stepX_ok {X : Type} {put : X → Act} {F : X → Array Bool → World → Prop} {k : Nat} {o : Oper} (h : StepX P md put F k o) : StepOK P md ops Q (fun L a w => ∃ x, a = put x ∧ F x L w) k o :=
  stepOK_plain h.1 fun L a w hJ h1 h2 h3 K' hK => by
    obtain ⟨x, rfl, hF⟩ := hJ
    exact wp_ofFalse (h.2 L x w hF h1 h2 h3 K' fun x' w' h' => hK _ _ ⟨x', rfl, h'⟩).out
theorem stepsX_ok {X : Type} {put : X → Act} {F : X → Array Bool → World → Prop} : ∀ {l : List Oper} {k : Nat}, StepsX P md put F l k → StepsOK P md ops Q (fun L a w => ∃ x, a = put x ∧ F x L w) l k
  | [], _, _ => trivial
  | _ :: _, _, h => ⟨stepX_ok h.1, stepsX_ok h.2⟩
theorem wp_region_invX {id : Nat} {a : Act} {w : World} {l : List Oper} {X : Type} (put : Act → X → Act) (F : X → Array Bool → World → Prop) (hm : P.follows .mixedOrders = true) (hb : backB .any l 0 = true)
    (h0 : ∀ (b : Act) (v : Nat → Value), (∀ d, b.put (some d) (v d) = b) → ∃ x, b = put b x ∧ F x (Array.replicate l.length false) w.drew)
    (hs : StepsX P .any (put a) F l 0) (hend : ∀ L x w', F x L w' → (∀ k, k < l.length → L.getD k false = true) → Q .normal (put a x) w') : (Code.region id l.toArray true).wp P Q a w :=
  wp_region_inv (fun a0 L a' w' => ∃ x, a' = put a0 x ∧ F x L w') hm hb h0 (stepsX_ok hs) fun L a' w' hJ hall => by
    obtain ⟨x, rfl, hF⟩ := hJ
    exact hend L x w' hF hall
theorem kput {K' : Act → World → Prop} {a b : Act} {w : World} (h : K' a w) (e : b = a) : K' b w := e ▸ h
theorem dep_of {o : Oper} {L : Array Bool} (h : (o.after.toList.all fun e => !Region.binds md e || L.getD e.on false) = true) (j : Nat) (hj : (o.after.toList.any fun e => e.on == j && Region.binds md e) = true) : L.getD j false = true := by
  rw [List.any_eq_true] at hj
  obtain ⟨e, he, hh⟩ := hj
  rw [Bool.and_eq_true, beq_iff_eq] at hh
  have := List.all_eq_true.1 h e he
  rw [hh.2, hh.1] at this
  simpa using this
theorem not_k {L : Array Bool} {k j : Nat} (h : (L.setIfInBounds k true).getD j false = true) (hne : k ≠ j) : L.getD j false = true := by
  rw [getD_set_ne false hne] at h; exact h
theorem not_k' {L : Array Bool} {k j : Nat} (h : (L.setIfInBounds k true).getD j false = false) (hne : k ≠ j) : L.getD j false = false := by
  rw [getD_set_ne false hne] at h; exact h
theorem set_now {L : Array Bool} {k : Nat} (h : k < L.size) : (L.setIfInBounds k true).getD k false = true := by
  simp [Array.getD, h]
theorem none_yet {n j : Nat} {p : Prop} (h : (Array.replicate n false).getD j false = true) : p := by
  rw [show (Array.replicate n false).getD j false = false by simp [Array.getD]] at h
  cases h
end
theorem Cel.farRow {W : World} {B B' : Nat} {cs : Array Value} {T : TypeId} (h : Cel W B' cs T) (hne : B' ≠ B) (ds : Array Value) : Cel (W.setRow B ds) B' cs T := (setRow_other W B B' ds hne).trans h
theorem since_setRow {w W : World} {B : Nat} (h : Since w W) (hB : w.heap.size ≤ B) (cs : Array Value) : Since w (W.setRow B cs) :=
  Below.grown h (row := some B) ⟨rfl, rfl, rfl, by simp, fun k hk hne => setRow_other W B k cs (fun e => hne (by rw [e]))⟩ h.size (fun k hk => by injection hk with hk; omega)
end Go.Proofs.YtbgdljcgbhhfdaaGreatDoor
