/- As XHeld, for long regions: the frame as a function, what has come up as a mask of bits; that an operation is apart from the rest is shown once for the region. -/
import Derived.Test.YtbgdljcgbhhfdaaGreatDoorHeld
namespace Go.Proofs.YtbgdljcgbhhfdaaGreatDoor
open Go.RowKit

def zb (m i : Nat) : Bool := Nat.beq (Nat.land (Nat.shiftRight m i) 1) 1
def zset (m i : Nat) : Nat := Nat.lor m (Nat.shiftLeft 1 i)
theorem zb_eq (m i : Nat) : zb m i = m.testBit i := by
  have h : Nat.land (Nat.shiftRight m i) 1 = m / 2 ^ i % 2 := by
    show (m >>> i) &&& 1 = _
    rw [Nat.and_one_is_mod, Nat.shiftRight_eq_div_pow]
  unfold zb
  rw [h, Nat.testBit_eq_decide_div_mod_eq]
  by_cases h1 : m / 2 ^ i % 2 = 1
  · rw [h1]; rfl
  · rw [decide_eq_false h1]
    cases hb : Nat.beq (m / 2 ^ i % 2) 1
    · rfl
    · exact absurd (Nat.eq_of_beq_eq_true hb) h1
theorem zb_set (m i j : Nat) : zb (zset m i) j = (zb m j || decide (i = j)) := by
  rw [zb_eq, zb_eq]
  show (m ||| (1 <<< i)).testBit j = _
  rw [Nat.testBit_or, Nat.one_shiftLeft, Nat.testBit_two_pow]
theorem zset_comm (m i j : Nat) : zset (zset m i) j = zset (zset m j) i := by
  show (m ||| (1 <<< i)) ||| (1 <<< j) = (m ||| (1 <<< j)) ||| (1 <<< i)
  rw [Nat.or_assoc, Nat.or_comm (1 <<< i), ← Nat.or_assoc]
def Lst (n : Nat) (listed : Array Bool) (m : Nat) : Prop := listed.size = n ∧ ∀ j, j < n → listed[j]? = some (zb m j)
theorem Lst.set {n m : Nat} {listed : Array Bool} (h : Lst n listed m) (i : Nat) : Lst n (listed.setIfInBounds i true) (zset m i) := by
  refine ⟨by rw [Array.size_setIfInBounds]; exact h.1, fun j hj => ?_⟩
  rw [zb_set]
  by_cases hij : i = j
  · subst hij
    rw [Array.getElem?_setIfInBounds_self_of_lt (by rw [h.1]; exact hj)]
    simp
  · rw [Array.getElem?_setIfInBounds_ne hij, h.2 j hj]
    simp [hij]
theorem Lst.tt {n m j : Nat} {listed : Array Bool} (h : Lst n listed m) (hj : j < n) (d : Bool) : listed.getD j d = zb m j := by
  rw [Array.getD_eq_getD_getElem?, h.2 j hj]; rfl
/-- May an operation come up? -/
def zgo (md : Region.Mode) (m i : Nat) (o : Oper) : Bool := !zb m i && o.after.toList.all fun e => !Region.binds md e || zb m e.on
def zready (md : Region.Mode) (m : Nat) : List Oper → Nat → List Nat
  | [], _ => []
  | o :: l, k => bif zgo md m k o then k :: zready md m l (k + 1) else zready md m l (k + 1)
def zstat (md : Region.Mode) (ops : Array Oper) : List Oper → Nat → List (Nat × Nat) → Nat → Bool
  | [], _, _, _ => true
  | o :: l, k, D, K =>
    (match o.dst with | some d => !zb K d && D.all (fun p => !Nat.beq p.2 d) | none => true) &&
    ((o.looksAt ops).all (fun t => D.all fun p => !Nat.beq p.2 t || o.after.toList.any fun e => Region.binds md e && Nat.beq e.on p.1) &&
    zstat md ops l (k + 1) (match o.dst with | some d => (k, d) :: D | none => D) ((o.looksAt ops).foldl zset K))
def zgood (md : Region.Mode) (ops : Array Oper) (n : Nat) : Bool :=
  Region.noSelect ops && (zstat md ops ops.toList 0 [] 0 && (ops.toList.all fun o => (match o.dst with | some d => Nat.blt d n | none => true) && o.after.toList.all fun e => Nat.blt e.on ops.size))

theorem zb_fold : ∀ (l : List Nat) (K t : Nat), zb K t = true ∨ t ∈ l → zb (l.foldl zset K) t = true
  | [], K, t, h => h.elim id (fun h => by cases h)
  | a :: l, K, t, h => by
    refine zb_fold l (zset K a) t ?_
    rw [zb_set]
    rcases h with h | h
    · exact .inl (by rw [h]; rfl)
    · rcases List.mem_cons.1 h with rfl | h
      · exact .inl (by simp)
      · exact .inr h
theorem apart_symm {ops : Array Oper} {x y : Oper} (h : x.apart ops y = true) : y.apart ops x = true := by
  obtain ⟨h1, h2, h3⟩ := Oper.apart_spec h
  unfold Oper.apart
  rw [Bool.and_eq_true]
  constructor
  · cases hy : y.dst with
    | none => rfl
    | some d =>
      show (!(x.looksAt ops).contains d && x.dst != some d) = true
      have ha : ¬ d ∈ x.looksAt ops := h3 d hy
      have hb : x.dst ≠ some d := fun hx => h2 d hx hy
      simp [ha, hb]
  · cases hx : x.dst with
    | none => rfl
    | some d =>
      show (!(y.looksAt ops).contains d) = true
      have ha : ¬ d ∈ y.looksAt ops := h1 d hx
      simp [ha]
theorem zstat_ok {md : Region.Mode} {ops : Array Oper} : ∀ (l : List Oper) (k : Nat) (D : List (Nat × Nat)) (K : Nat), zstat md ops l k D K = true → (∀ j, l[j]? = ops[k + j]?) →
    (∀ j oj d, j < k → ops[j]? = some oj → oj.dst = some d → (j, d) ∈ D) → (∀ j oj t, j < k → ops[j]? = some oj → t ∈ oj.looksAt ops → zb K t = true) →
    ∀ i j oi oj, k ≤ i → j < i → ops[i]? = some oi → ops[j]? = some oj → (∃ e ∈ oi.after, Region.binds md e = true ∧ e.on = j) ∨ oi.apart ops oj = true
  | [], k, D, K, _, hl, _, _, i, j, oi, oj, hk, _, hi, _ => by
    have h := hl (i - k)
    rw [show k + (i - k) = i by omega, hi] at h
    cases h
  | o :: l, k, D, K, hs, hl, hD, hK, i, j, oi, oj, hk, hji, hi, hj => by
    rw [zstat, Bool.and_eq_true, Bool.and_eq_true] at hs
    obtain ⟨hs1, hs2, hs3⟩ := hs
    have ho : ops[k]? = some o := by have h := hl 0; rw [Nat.add_zero] at h; rw [← h]; rfl
    by_cases hik : i = k
    · subst hik
      obtain rfl : o = oi := by rw [ho] at hi; exact Option.some.inj hi
      by_cases he : ∃ e ∈ o.after, Region.binds md e = true ∧ e.on = j
      · exact .inl he
      · refine .inr ?_
        unfold Oper.apart
        rw [Bool.and_eq_true]
        constructor
        · cases hd : o.dst with
          | none => rfl
          | some d =>
            rw [hd] at hs1
            have hs1' : (!zb K d && D.all (fun p => !Nat.beq p.2 d)) = true := hs1
            rw [Bool.and_eq_true, Bool.not_eq_true', List.all_eq_true] at hs1'
            show (!(oj.looksAt ops).contains d && oj.dst != some d) = true
            have ha : ¬ d ∈ oj.looksAt ops := fun hm => by
              have := hK j oj d hji hj hm
              rw [hs1'.1] at this; cases this
            have hb : oj.dst ≠ some d := fun hx => by
              have := hs1'.2 _ (hD j oj d hji hj hx)
              rw [Bool.not_eq_true', Nat.beq_refl] at this; cases this
            simp [ha, hb]
        · cases hd : oj.dst with
          | none => rfl
          | some d =>
            show (!(o.looksAt ops).contains d) = true
            have ha : ¬ d ∈ o.looksAt ops := fun hm => by
              have h1 := (List.all_eq_true.1 hs2) d hm
              have h2 := (List.all_eq_true.1 h1) _ (hD j oj d hji hj hd)
              rw [Bool.or_eq_true, Bool.not_eq_true', Nat.beq_refl] at h2
              rcases h2 with h2 | h2
              · cases h2
              · obtain ⟨e, hem, heb⟩ := List.any_eq_true.1 h2
                rw [Bool.and_eq_true] at heb
                exact he ⟨e, Array.mem_toList_iff.1 hem, heb.1, Nat.eq_of_beq_eq_true heb.2⟩
            simp [ha]
    · refine zstat_ok l (k + 1) _ _ hs3 (fun j => ?_) (fun j2 oj2 d hj2 hoj2 hd2 => ?_) (fun j2 oj2 t hj2 hoj2 ht => ?_) i j oi oj (by omega) hji hi hj
      · have h := hl (j + 1)
        rw [show k + 1 + j = k + (j + 1) by omega, ← h]; rfl
      · by_cases h : j2 = k
        · subst h
          obtain rfl : o = oj2 := by rw [ho] at hoj2; exact Option.some.inj hoj2
          rw [hd2]
          exact List.mem_cons_self
        · have := hD j2 oj2 d (by omega) hoj2 hd2
          cases o.dst with
          | none => exact this
          | some d2 => exact List.mem_cons_of_mem _ this
      · by_cases h : j2 = k
        · subst h
          obtain rfl : o = oj2 := by rw [ho] at hoj2; exact Option.some.inj hoj2
          exact zb_fold _ _ _ (.inr ht)
        · exact zb_fold _ _ _ (.inl (hK j2 oj2 t (by omega) hoj2 ht))
theorem zgood_pair {md : Region.Mode} {ops : Array Oper} {n : Nat} (h : zgood md ops n = true) {i j : Nat} {oi oj : Oper} (hij : i ≠ j) (hi : ops[i]? = some oi) (hj : ops[j]? = some oj) :
    (∃ e ∈ oi.after, Region.binds md e = true ∧ e.on = j) ∨ (∃ e ∈ oj.after, Region.binds md e = true ∧ e.on = i) ∨ oi.apart ops oj = true := by
  unfold zgood at h
  rw [Bool.and_eq_true, Bool.and_eq_true] at h
  have H := zstat_ok ops.toList 0 [] 0 h.2.1 (fun j => by rw [Nat.zero_add, Array.getElem?_toList]) (fun j oj d hj => absurd hj (Nat.not_lt_zero _)) (fun j oj d hj => absurd hj (Nat.not_lt_zero _))
  rcases Nat.lt_or_ge j i with hlt | hge
  · rcases H i j oi oj (Nat.zero_le _) hlt hi hj with h1 | h1
    · exact .inl h1
    · exact .inr (.inr h1)
  · rcases H j i oj oi (Nat.zero_le _) (by omega) hj hi with h1 | h1
    · exact .inr (.inl h1)
    · exact .inr (.inr (apart_symm h1))
theorem zgood_dst {md : Region.Mode} {ops : Array Oper} {n : Nat} (h : zgood md ops n = true) {i d : Nat} {oi : Oper} (hi : ops[i]? = some oi) (hd : oi.dst = some d) : d < n := by
  unfold zgood at h
  rw [Bool.and_eq_true, Bool.and_eq_true] at h
  have h1 := List.all_eq_true.1 h.2.2 oi (by rw [Array.mem_toList_iff]; exact Array.mem_of_getElem? hi)
  rw [hd, Bool.and_eq_true] at h1
  exact Nat.le_of_ble_eq_true h1.1
theorem zgood_on {md : Region.Mode} {ops : Array Oper} {n : Nat} (h : zgood md ops n = true) {i : Nat} {oi : Oper} (hi : ops[i]? = some oi) (e : Edge) (he : e ∈ oi.after) : e.on < ops.size := by
  unfold zgood at h
  rw [Bool.and_eq_true, Bool.and_eq_true] at h
  have h1 := List.all_eq_true.1 h.2.2 oi (by rw [Array.mem_toList_iff]; exact Array.mem_of_getElem? hi)
  rw [Bool.and_eq_true] at h1
  exact Nat.le_of_ble_eq_true (List.all_eq_true.1 h1.2 e (Array.mem_toList_iff.2 he))
theorem zgood_sel {md : Region.Mode} {ops : Array Oper} {n : Nat} (h : zgood md ops n = true) : Region.noSelect ops = true := by
  unfold zgood at h
  rw [Bool.and_eq_true] at h
  exact h.1
theorem zgo_ready {md : Region.Mode} {ops : Array Oper} {n m i : Nat} {oi : Oper} {listed : Array Bool} (hg : zgood md ops n = true) (hl : Lst ops.size listed m) (hi : ops[i]? = some oi) :
    i ∈ Region.ready md ops listed ↔ zgo md m i oi = true := by
  have hlt : i < ops.size := (Array.getElem?_eq_some_iff.1 hi).1
  rw [mem_ready, hl.tt hlt]
  unfold zgo
  rw [Bool.and_eq_true, Bool.not_eq_true', List.all_eq_true]
  constructor
  · rintro ⟨h1, o, ho, h2⟩
    obtain rfl : o = oi := by rw [ho] at hi; exact Option.some.inj hi
    refine ⟨h1, fun e he => ?_⟩
    have hem := Array.mem_toList_iff.1 he
    cases hb : Region.binds md e
    · rfl
    · have := h2 e hem hb
      rw [hl.tt (zgood_on hg hi e hem)] at this
      rw [this]; rfl
  · rintro ⟨h1, h2⟩
    refine ⟨h1, oi, hi, fun e he hb => ?_⟩
    have := h2 e (Array.mem_toList_iff.2 he)
    rw [hb] at this
    rw [hl.tt (zgood_on hg hi e he)]
    exact this
theorem zready_eq {md : Region.Mode} {ops : Array Oper} {n m : Nat} {listed : Array Bool} (hg : zgood md ops n = true) (hl : Lst ops.size listed m) :
    Region.ready md ops listed = zready md m ops.toList 0 := by
  have key : ∀ (l : List Oper) (k : Nat), (∀ j, l[j]? = ops[k + j]?) → (List.range' k l.length).filter (fun i => decide (i ∈ Region.ready md ops listed)) = zready md m l k := by
    intro l
    induction l with
    | nil => intro k _; rfl
    | cons o l ih =>
      intro k h
      have ho : ops[k]? = some o := by have h := h 0; rw [Nat.add_zero] at h; rw [← h]; rfl
      rw [List.length_cons, List.range'_succ, List.filter_cons, zready, ih (k + 1) (fun j => by have h := h (j + 1); rw [show k + 1 + j = k + (j + 1) by omega, ← h]; rfl)]
      have h1 := zgo_ready (i := k) hg hl ho
      by_cases h2 : k ∈ Region.ready md ops listed
      · rw [decide_eq_true h2, h1.1 h2]; rfl
      · rw [decide_eq_false h2]
        have h3 : zgo md m k o = false := by
          cases hz : zgo md m k o
          · rfl
          · exact absurd (h1.2 hz) h2
        rw [h3]; rfl
  have h1 := key ops.toList 0 (fun j => by rw [Nat.zero_add, Array.getElem?_toList])
  rw [← h1]
  unfold Region.ready
  rw [Array.length_toList, ← List.range_eq_range']
  refine List.filter_congr fun i hi => ?_
  rw [List.mem_range] at hi
  symm
  have hmem : i ∈ Region.ready md ops listed ↔ ((!listed.getD i true && ((ops[i]?).map (·.after.all fun e => !Region.binds md e || listed.getD e.on false)).getD false) = true) := by
    unfold Region.ready
    rw [List.mem_filter, List.mem_range]
    exact ⟨fun h => h.2, fun h => ⟨hi, h⟩⟩
  cases hb : (!listed.getD i true && ((ops[i]?).map (·.after.all fun e => !Region.binds md e || listed.getD e.on false)).getD false)
  · exact decide_eq_false (fun h => Bool.noConfusion (hb.symm.trans (hmem.1 h)))
  · exact decide_eq_true (hmem.2 hb)

def zupd (f : Nat → Option Value) (d : Nat) (v : Value) : Nat → Option Value := fun t => bif Nat.beq t d then some v else f t
def zeval (f : Nat → Option Value) : Operand → Value
  | .tmp t => (f t).getD undef
  | .const v => v
  | .global g => .pointer (some ⟨g, 0, none⟩)
  | .func k => .func (.func k) #[] #[]
def zyield (ops : Array Oper) (f : Nat → Option Value) (j : Nat) : Option Bool :=
  match ((ops[j]?).bind (·.dst)).bind f with
  | some (.bool b) => some b
  | _ => none
theorem zupd_comm {f : Nat → Option Value} {d e : Nat} {u v : Value} (h : d ≠ e) : zupd (zupd f d u) e v = zupd (zupd f e v) d u := by
  funext t
  unfold zupd
  by_cases h1 : t = d
  · subst h1
    have : Nat.beq t e = false := by
      cases hb : Nat.beq t e
      · rfl
      · exact absurd (Nat.eq_of_beq_eq_true hb) h
    rw [this, Nat.beq_refl]; rfl
  · have : Nat.beq t d = false := by
      cases hb : Nat.beq t d
      · rfl
      · exact absurd (Nat.eq_of_beq_eq_true hb) h1
    rw [this]; rfl
theorem zset_list {L : List Value} {f : Nat → Option Value} (h : ∀ t, L[t]? = f t) {d : Nat} (hd : d < L.length) (v : Value) (t : Nat) : (L.set d v)[t]? = zupd f d v t := by
  unfold zupd
  by_cases h1 : t = d
  · subst h1
    rw [Nat.beq_refl, List.getElem?_set_self hd]; rfl
  · have : Nat.beq t d = false := by
      cases hb : Nat.beq t d
      · rfl
      · exact absurd (Nat.eq_of_beq_eq_true hb) h1
    rw [this, List.getElem?_set_ne (Ne.symm h1), h]; rfl
theorem zeval_eq {L : List Value} {f : Nat → Option Value} (h : ∀ t, L[t]? = f t) (ds : List Deferred) : Act.eval ⟨L.toArray, ds⟩ = zeval f := by
  funext x
  cases x with
  | tmp t =>
    show L.toArray.getD t undef = (f t).getD undef
    rw [Array.getD_eq_getD_getElem?, List.getElem?_toArray, h]
  | _ => rfl
theorem zyield_eq {L : List Value} {f : Nat → Option Value} (h : ∀ t, L[t]? = f t) (ops : Array Oper) : yielded ops L.toArray = zyield ops f := by
  funext j
  unfold yielded zyield
  have : (fun t => L.toArray[t]?) = f := by funext t; rw [List.getElem?_toArray, h]
  rw [this]
  generalize ((ops[j]?).bind (·.dst)).bind f = z
  cases z with
  | none => rfl
  | some v => cases v <;> rfl
/-- One operation that leaves a value: by itself, or by a call. -/
def StepV (P : Program) (o : Oper) (ev : Operand → Value) (w : World) (K : Value → World → Prop) : Prop :=
  (∃ v w', (execOp ev o).run P w = .ok (.value v) w' ∧ K v w') ∨ (∃ (f : FuncId) (args : Array Value) (R : Ending → World → Prop), (execOp ev o).run P w = .ok (.enter f args) w ∧ Calls P f args w R ∧ ∀ e w', R e w' → ∃ v, e = .returned v ∧ K v w')
def Wf (P : Program) (md : Region.Mode) (ops : Array Oper) (n : Nat) (Q : Exit → Act → World → Prop) (S : World → Prop) (fuel m : Nat) (f : Nat → Option Value) (ds : List Deferred) (w : World) : Prop :=
  ∀ (L : List Value) (listed : Array Bool), L.length = n → (∀ t, L[t]? = f t) → Lst ops.size listed m → wpAnyH P md ops Q S fuel listed ⟨L.toArray, ds⟩ w
section
variable {P : Program} {md : Region.Mode} {ops : Array Oper} {n : Nat} {Q : Exit → Act → World → Prop} {S : World → Prop} {i j d d2 fuel m : Nat} {oi oj : Oper} {f : Nat → Option Value} {ds : List Deferred} {w : World}
theorem StepV.val {ev : Operand → Value} {K : Value → World → Prop} (v : Value) (w' : World) (hr : (execOp ev oi).run P w = .ok (.value v) w') (h : K v w') : StepV P oi ev w K := .inl ⟨v, w', hr, h⟩
theorem StepV.calls {ev : Operand → Value} {K : Value → World → Prop} (g : FuncId) (args : Array Value) {R : Ending → World → Prop} (hr : (execOp ev oi).run P w = .ok (.enter g args) w) (hc : Calls P g args w R)
    (h : ∀ e w', R e w' → ∃ v, e = .returned v ∧ K v w') : StepV P oi ev w K := .inr ⟨g, args, R, hr, hc, h⟩
theorem StepV.wp {L : List Value} (hL : ∀ t, L[t]? = f t) (hd : oi.dst = some d) {K : Value → World → Prop} (h : StepV P oi (zeval f) w K) :
    Oper.wp P oi ⟨L.toArray, ds⟩ w (fun a' w' => ∃ v, a' = ⟨(L.set d v).toArray, ds⟩ ∧ K v w') Q := by
  unfold Oper.wp
  rw [zeval_eq hL]
  rcases h with ⟨v, w', hr, hK⟩ | ⟨g, args, R, hr, hc, hK⟩
  · rw [hr, Oper.upon_value, hd, put_list]
    exact ⟨v, rfl, hK⟩
  · rw [hr, Oper.upon_enter]
    refine hc.mono fun e w' hR => ?_
    obtain ⟨v, rfl, h2⟩ := hK e w' hR
    show ∃ _, _
    rw [hd, put_list]
    exact ⟨v, rfl, h2⟩
theorem hz_begin {id : Nat} {L : List Value} {w : World} (hm : P.follows .mixedOrders = true) (hlen : L.length = n) (hg : zgood .any ops n = true) (hQ : ∀ c a i v w, Q (.panic c) (a.put (some i) v) w → Q (.panic c) a w)
    (h : zgood .any ops n = true → (∀ c a i v w, Q (.panic c) (a.put (some i) v) w → Q (.panic c) a w) → Wf P .any ops n Q S ops.size 0 (fun t => L[t]?) ds w.drew) (hS : S w.drew) : (Code.region id ops true).wp P Q ⟨L.toArray, ds⟩ w :=
  wp_region_held_drew hm hS (fun _ => h hg hQ L _ hlen (fun _ => rfl) ⟨by simp, fun j hj => by
    have h0 : zb 0 j = false := by rw [zb_eq, Nat.zero_testBit]
    rw [h0]
    simp [hj]⟩)
theorem hz_take {v : Value} (hi : ops[i]? = some oi) (hd : oi.dst = some d) (hg : zgood md ops n = true) (hr : zgo md m i oi = true)
    (hQ : ∀ c a i v w, Q (.panic c) (a.put (some i) v) w → Q (.panic c) a w) (hw : Region.wanted oi (zyield ops f) = true) (hrun : ∀ w, S w → (execOp (zeval f) oi).run P w = .ok (.value v) w) (hS : S w)
    (h : Wf P md ops n Q S fuel (zset m i) (zupd f d v) ds w) : Wf P md ops n Q S (fuel + 1) m f ds w := by
  intro L listed hlen hL hl
  have hin := (zgo_ready hg hl hi).2 hr
  refine wpAnyH_first hi (Region.noSelect_spec (zgood_sel hg)) (fun c a w h => hQ c a d v w (hd ▸ h)) fuel listed _ w (fun j oj hj hne hun hno => ?_) hin (.inl ⟨by show Region.wanted oi (yielded ops L.toArray) = true; rw [zyield_eq hL]; exact hw, by rw [zeval_eq hL]; exact hrun⟩) hS ?_
  · rcases zgood_pair hg (Ne.symm hne) hi hj with ⟨e, he, hb, ho⟩ | ⟨e, he, hb, ho⟩ | h3
    · have h2 := (mem_ready.1 hin).2
      obtain ⟨o, ho2, h2⟩ := h2
      obtain rfl : o = oi := by rw [ho2] at hi; exact Option.some.inj hi
      have h3 := h2 e he hb
      have hjlt : j < ops.size := (Array.getElem?_eq_some_iff.1 hj).1
      rw [ho, hl.tt hjlt] at h3
      rw [hl.tt hjlt, h3] at hun
      cases hun
    · exact absurd ho (hno e he hb)
    · exact h3
  · rw [hd, put_list]
    exact h _ _ (by rw [List.length_set]; exact hlen) (fun t => zset_list hL (by rw [hlen]; exact zgood_dst hg hi hd) v t) (hl.set i)
theorem hz_off (hi : ops[i]? = some oi) (hd : oi.dst = some d) (hg : zgood md ops n = true) (hr : zgo md m i oi = true)
    (hQ : ∀ c a i v w, Q (.panic c) (a.put (some i) v) w → Q (.panic c) a w) (hw : Region.wanted oi (zyield ops f) = false) (hS : S w)
    (h : Wf P md ops n Q S fuel (zset m i) (zupd f d undef) ds w) : Wf P md ops n Q S (fuel + 1) m f ds w := by
  intro L listed hlen hL hl
  have hin := (zgo_ready hg hl hi).2 hr
  refine wpAnyH_first (v := undef) hi (Region.noSelect_spec (zgood_sel hg)) (fun c a w h => hQ c a d undef w (hd ▸ h)) fuel listed _ w (fun j oj hj hne hun hno => ?_) hin (.inr ⟨by show Region.wanted oi (yielded ops L.toArray) = false; rw [zyield_eq hL]; exact hw, rfl⟩) hS ?_
  · rcases zgood_pair hg (Ne.symm hne) hi hj with ⟨e, he, hb, ho⟩ | ⟨e, he, hb, ho⟩ | h3
    · have h2 := (mem_ready.1 hin).2
      obtain ⟨o, ho2, h2⟩ := h2
      obtain rfl : o = oi := by rw [ho2] at hi; exact Option.some.inj hi
      have h3 := h2 e he hb
      have hjlt : j < ops.size := (Array.getElem?_eq_some_iff.1 hj).1
      rw [ho, hl.tt hjlt] at h3
      rw [hl.tt hjlt, h3] at hun
      cases hun
    · exact absurd ho (hno e he hb)
    · exact h3
  · rw [hd, put_list]
    exact h _ _ (by rw [List.length_set]; exact hlen) (fun t => zset_list hL (by rw [hlen]; exact zgood_dst hg hi hd) undef t) (hl.set i)
theorem hz_step (hi : ops[i]? = some oi) (hd : oi.dst = some d) (hg : zgood md ops n = true) (hr : zready md m ops.toList 0 = [i]) (hw : Region.wanted oi (zyield ops f) = true)
    (h : StepV P oi (zeval f) w (fun v w' => S w' ∧ Wf P md ops n Q S fuel (zset m i) (zupd f d v) ds w')) : Wf P md ops n Q S (fuel + 1) m f ds w := by
  intro L listed hlen hL hl
  refine hx_step hi (by rw [zready_eq hg hl]; exact hr) (by show Region.wanted oi (yielded ops L.toArray) = true; rw [zyield_eq hL]; exact hw) ?_
  refine Oper.wp_mono ?_ (h.wp hL hd)
  rintro a w' ⟨v, rfl, h1, h2⟩
  exact ⟨h1, h2 _ _ (by rw [List.length_set]; exact hlen) (fun t => zset_list hL (by rw [hlen]; exact zgood_dst hg hi hd) v t) (hl.set i)⟩
theorem hz_call (g : FuncId) (args : Array Value) {R : Ending → World → Prop} (hi : ops[i]? = some oi) (hd : oi.dst = some d) (hg : zgood md ops n = true) (hr : zready md m ops.toList 0 = [i]) (hw : Region.wanted oi (zyield ops f) = true)
    (hrun : (execOp (zeval f) oi).run P w = .ok (.enter g args) w) (hc : Calls P g args w R)
    (h : ∀ e w', R e w' → ∃ v, e = .returned v ∧ S w' ∧ Wf P md ops n Q S fuel (zset m i) (zupd f d v) ds w') : Wf P md ops n Q S (fuel + 1) m f ds w :=
  hz_step hi hd hg hr hw (.calls g args hrun hc h)
theorem hz_make (v : Value) (w' : World) (hi : ops[i]? = some oi) (hd : oi.dst = some d) (hg : zgood md ops n = true) (hr : zready md m ops.toList 0 = [i]) (hw : Region.wanted oi (zyield ops f) = true)
    (hrun : (execOp (zeval f) oi).run P w = .ok (.value v) w') (hS : S w') (h : Wf P md ops n Q S fuel (zset m i) (zupd f d v) ds w') : Wf P md ops n Q S (fuel + 1) m f ds w :=
  hz_step hi hd hg hr hw (.val v w' hrun ⟨hS, h⟩)
theorem hz_store (w' : World) (hi : ops[i]? = some oi) (hd : oi.dst = none) (hg : zgood md ops n = true) (hr : zready md m ops.toList 0 = [i]) (hw : Region.wanted oi (zyield ops f) = true)
    (hrun : (execOp (zeval f) oi).run P w = .ok .skip w') (hS : S w') (h : Wf P md ops n Q S fuel (zset m i) f ds w') : Wf P md ops n Q S (fuel + 1) m f ds w := by
  intro L listed hlen hL hl
  refine hx_step hi (by rw [zready_eq hg hl]; exact hr) (by show Region.wanted oi (yielded ops L.toArray) = true; rw [zyield_eq hL]; exact hw) ?_
  unfold Oper.wp
  rw [zeval_eq hL, hrun, Oper.upon_skip, hd]
  exact ⟨hS, h _ _ hlen hL (hl.set i)⟩
/-- Two that may come in either order: what is behind them is walked once. -/
theorem hz_join (K : Value → Value → World → Prop) (hi : ops[i]? = some oi) (hj : ops[j]? = some oj) (hdi : oi.dst = some d) (hdj : oj.dst = some d2) (hne : Nat.beq d d2 = false) (hg : zgood md ops n = true)
    (hr : zready md m ops.toList 0 = [i, j]) (hri : zready md (zset m i) ops.toList 0 = [j]) (hrj : zready md (zset m j) ops.toList 0 = [i])
    (hwi : Region.wanted oi (zyield ops f) = true) (hwj : Region.wanted oj (zyield ops f) = true) (hwij : ∀ u, Region.wanted oj (zyield ops (zupd f d u)) = true) (hwji : ∀ v, Region.wanted oi (zyield ops (zupd f d2 v)) = true)
    (h1 : StepV P oi (zeval f) w (fun u w1 => S w1 ∧ StepV P oj (zeval (zupd f d u)) w1 (fun v w2 => S w2 ∧ K u v w2)))
    (h2 : StepV P oj (zeval f) w (fun v w1 => S w1 ∧ StepV P oi (zeval (zupd f d2 v)) w1 (fun u w2 => S w2 ∧ K u v w2)))
    (h : ∀ u v w2, K u v w2 → S w2 → Wf P md ops n Q S fuel (zset (zset m i) j) (zupd (zupd f d u) d2 v) ds w2) : Wf P md ops n Q S (fuel + 2) m f ds w := by
  have hne' : d ≠ d2 := fun he => by rw [he, Nat.beq_refl] at hne; cases hne
  intro L listed hlen hL hl
  have e1 : Oper.wp P oi ⟨L.toArray, ds⟩ w (fun a' w' => S w' ∧ wpAnyH P md ops Q S (fuel + 1) (listed.setIfInBounds i true) a' w') Q := by
    refine Oper.wp_mono ?_ (h1.wp hL hdi)
    rintro a w' ⟨u, rfl, hS1, hst⟩
    refine ⟨hS1, (hz_step (f := zupd f d u) (m := zset m i) hj hdj hg hri (hwij u) ?_ : Wf P md ops n Q S (fuel + 1) (zset m i) (zupd f d u) ds w') _ _ (by rw [List.length_set]; exact hlen) (fun t => zset_list hL (by rw [hlen]; exact zgood_dst hg hi hdi) u t) (hl.set i)⟩
    rcases hst with ⟨v, w2, hr2, hS2, hK⟩ | ⟨g, args, R, hr2, hc, hK⟩
    · exact .inl ⟨v, w2, hr2, hS2, h u v w2 hK hS2⟩
    · refine .inr ⟨g, args, R, hr2, hc, fun e w2 hR => ?_⟩
      obtain ⟨v, he, hS2, hK⟩ := hK e w2 hR
      exact ⟨v, he, hS2, h u v w2 hK hS2⟩
  have e2 : Oper.wp P oj ⟨L.toArray, ds⟩ w (fun a' w' => S w' ∧ wpAnyH P md ops Q S (fuel + 1) (listed.setIfInBounds j true) a' w') Q := by
    refine Oper.wp_mono ?_ (h2.wp hL hdj)
    rintro a w' ⟨v, rfl, hS1, hst⟩
    refine ⟨hS1, (hz_step (f := zupd f d2 v) (m := zset m j) hi hdi hg hrj (hwji v) ?_ : Wf P md ops n Q S (fuel + 1) (zset m j) (zupd f d2 v) ds w') _ _ (by rw [List.length_set]; exact hlen) (fun t => zset_list hL (by rw [hlen]; exact zgood_dst hg hj hdj) v t) (hl.set j)⟩
    have h' : ∀ u w2, K u v w2 → S w2 → Wf P md ops n Q S fuel (zset (zset m j) i) (zupd (zupd f d2 v) d u) ds w2 := fun u w2 hK hS2 => by
      rw [zset_comm, ← zupd_comm hne']
      exact h u v w2 hK hS2
    rcases hst with ⟨u, w2, hr2, hS2, hK⟩ | ⟨g, args, R, hr2, hc, hK⟩
    · exact .inl ⟨u, w2, hr2, hS2, h' u w2 hK hS2⟩
    · refine .inr ⟨g, args, R, hr2, hc, fun e w2 hR => ?_⟩
      obtain ⟨u, he, hS2, hK⟩ := hK e w2 hR
      exact ⟨u, he, hS2, h' u w2 hK hS2⟩
  exact wpAnyH_ready (by rw [zready_eq hg hl]; exact hr) (by simp) (AllReadyH.cons hi (fun K' hK => by
    rw [if_pos (by rw [zyield_eq hL]; exact hwi)]
    exact Oper.wp_mono (fun a w hh => hK.out a w hh.1 (fun _ => hh.2)) e1) (AllReadyH.cons hj (fun K' hK => by
    rw [if_pos (by rw [zyield_eq hL]; exact hwj)]
    exact Oper.wp_mono (fun a w hh => hK.out a w hh.1 (fun _ => hh.2)) e2) AllReadyH.nil))
theorem hz_fin (k : Nat) (v : Value) (hg : zgood md ops n = true) (hr : zready md m ops.toList 0 = []) (h0 : f k = some v) (h : ∀ L : List Value, L.toArray.getD k undef = v → Q .normal ⟨L.toArray, ds⟩ w) : Wf P md ops n Q S fuel m f ds w := by
  intro L listed hlen hL hl
  refine wpAnyH_done (by rw [zready_eq hg hl]; exact hr) (h L ?_) _
  rw [Array.getD_eq_getD_getElem?, List.getElem?_toArray, hL, h0]; rfl
end
end Go.Proofs.YtbgdljcgbhhfdaaGreatDoor
