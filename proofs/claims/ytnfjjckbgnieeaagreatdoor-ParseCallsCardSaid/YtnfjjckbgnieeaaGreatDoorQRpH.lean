/- The reference's reader of policies: Policy. -/
import Derived.Test.YtnfjjckbgnieeaaGreatDoorQRpG
import Derived.Test.YtnfjjckbgnieeaaGreatDoorQR9
namespace Go.Proofs.YtnfjjckbgnieeaaGreatDoor
open Go.RowKit

def RoomS (P : Pol) (q : RS) : Prop := P.pr.length + leftS q ≤ 65537 ∧ P.pd.length + leftS q ≤ 65537 ∧ P.cl.length + leftS q ≤ 65537 ∧ P.ru.length + leftS q ≤ 65537 ∧ P.gr.length + leftS q ≤ 65537
theorem RoomS.less {P P' : Pol} {q q' : RS} (h : RoomS P q) (hl : leftS q' < leftS q) (h1 : P'.pr.length ≤ P.pr.length + 1) (h2 : P'.pd.length ≤ P.pd.length + 1) (h3 : P'.cl.length ≤ P.cl.length + 1) (h4 : P'.ru.length ≤ P.ru.length + 1) (h5 : P'.gr.length ≤ P.gr.length + 1) : RoomS P' q' := by
  unfold RoomS at h ⊢
  omega
theorem len_says (p : Pol) (q : RS) : (saysX p q).1.pr.length ≤ p.pr.length + 1 ∧ (saysX p q).1.pd.length ≤ p.pd.length + 1 ∧ (saysX p q).1.cl.length ≤ p.cl.length + 1 ∧ (saysX p q).1.ru.length ≤ p.ru.length + 1 ∧ (saysX p q).1.gr.length ≤ p.gr.length + 1 := by
  unfold saysX
  simp only
  split <;> simp
section
variable {w : World} {g : Nat} {lv : Value} {L : List Tk} {n : Nat} {r : Toks} {i : Nat} {s : Txt}
theorem rmaybe_yes (h : Rdr w g lv L n (.ok r) i) (hi : isT s r = true) : Calls Tryz.prog 49 #[.pointer (some ⟨g, 0, none⟩), .string ⟨s.toArray⟩] w fun e w' => e = .returned (.bool true) ∧ (∃ j, Rdr w' g lv L n (.ok (r.drop 1)) j) ∧ OnlyG g w w' := by
  have h1 := rmaybe_any s h
  rw [show isS s (.ok r) = true from hi, maybe_yes hi] at h1
  refine h1.mono ?_
  rintro e w' ⟨h2, ⟨j, h3, _⟩, h4⟩
  exact ⟨h2, ⟨j, h3⟩, h4⟩
theorem rmaybe_no (h : Rdr w g lv L n (.ok r) i) (hi : isT s r = false) : Calls Tryz.prog 49 #[.pointer (some ⟨g, 0, none⟩), .string ⟨s.toArray⟩] w fun e w' => e = .returned (.bool false) ∧ (∃ j, Rdr w' g lv L n (.ok r) j) ∧ OnlyG g w w' := by
  have h1 := rmaybe_any s h
  rw [show isS s (.ok r) = false from hi, maybe_no (by rw [hi]; decide)] at h1
  refine h1.mono ?_
  rintro e w' ⟨h2, ⟨j, h3, _⟩, h4⟩
  exact ⟨h2, ⟨j, h3⟩, h4⟩
end
theorem powp_pdX {w5 w6 : World} {D gp : Nat} {cs : Array Value} {c3 c4 c5 c6 c7 c8 c9 : Value} {P : Pol} {C : List (Clr × Value)} {U : List (Rul × Value)} {G : List (Grn × Value)} (o : POwn w5 D c3 c4 c5 c6 c7 c8 c9 P C U G) (hb : Cel w6 gp cs 29) {x : (Txt × Int)} {v6 : Value} (hown : w6.ownsRow D 36 2 v6 (P.pd.length + 1) ((P.pd.flatMap prdL) ++ prdL x)) (hg : w5.grownBy w6 c4.ownBlock)  :
    POwn (w6.setCell ⟨gp, 1, none⟩ v6) D c3 v6 c5 c6 c7 c8 c9 { P with pd := P.pd ++ [x] } C U G := by
  have key : ∀ {e : TypeId} {K m : Nat} {v : Value} {xs : List Value}, w6.ownsRow D e K v m xs → e ≠ 29 → (w6.setCell ⟨gp, 1, none⟩ v6).ownsRow D e K v m xs := fun hr he => own_setCell hr hb he
  have oth : ∀ {e : TypeId} {K m : Nat} {v : Value} {xs : List Value}, w5.ownsRow D e K v m xs → e ≠ 36 → e ≠ 29 → (w6.setCell ⟨gp, 1, none⟩ v6).ownsRow D e K v m xs := fun hr he hp => key (own_other hr o.pd he hg) hp
  exact ⟨oth o.pr (by decide) (by decide), by simpa [List.length_append, List.flatMap_append] using key hown (by decide), ⟨oth o.cl.row (by decide) (by decide), fun p hp => oth (o.cl.ins p hp) (by decide) (by decide), o.cl.apart⟩, ⟨oth o.ru.row (by decide) (by decide), fun p hp => oth (o.ru.ins p hp) (by decide) (by decide), o.ru.apart⟩, ⟨oth o.gr.row (by decide) (by decide), fun p hp => oth (o.gr.ins p hp) (by decide) (by decide), o.gr.apart⟩, o.eC, o.eU, o.eG, o.qu, o.bu, o.aC, o.aU⟩
theorem PX.push_pdX {w0 w5 w6 : World} {g gp : Nat} {lv : Value} {L : List Tk} {n : Nat} {q : RS} {P : Pol} {c3 c4 c5 c6 c7 c8 c9 : Value} {C : List (Clr × Value)} {U : List (Rul × Value)} {G : List (Grn × Value)} (h : PX w0 w5 g gp lv L n q P c3 c4 c5 c6 c7 c8 c9 C U G) {x : Txt × Int} {v6 : Value} (hown : w6.ownsRow w0.heap.size 36 2 v6 (P.pd.length + 1) ((P.pd.flatMap prdL) ++ prdL x)) (hg : w5.grownBy w6 c4.ownBlock) :
    PX w0 (w6.setCell ⟨gp, 1, none⟩ v6) g gp lv L n q { P with pd := P.pd ++ [x] } c3 v6 c5 c6 c7 c8 c9 C U G := h.put h.own.pd hg (by decide) (by decide) (by decide) rfl (fun hb => powp_pdX h.own hb hown hg)
theorem PX.asideD {w0 W W' : World} {g gp hb : Nat} {lv : Value} {L : List Tk} {n : Nat} {q : RS} {P : Pol} {c3 c4 c5 c6 c7 c8 c9 : Value} {C : List (Clr × Value)} {U : List (Rul × Value)} {G : List (Grn × Value)} {cs : Array Value} (h : PX w0 W g gp lv L n q P c3 c4 c5 c6 c7 c8 c9 C U G) (hz : Keep (fun b => b = hb) W W') (hc : Cel W hb cs 36) (hg : ¬ hb = g) (hp : hb ≠ gp) (hlo : w0.heap.size ≤ hb)
    (hne : ∀ b, c4.ownBlock = some b → ¬ b = hb) : PX w0 W' g gp lv L n q P c3 c4 c5 c6 c7 c8 c9 C U G := by
  obtain ⟨j, hj⟩ := h.rd
  have key : ∀ {e : TypeId} {K m : Nat} {v : Value} {xs : List Value}, W.ownsRow w0.heap.size e K v m xs → e ≠ 36 → W'.ownsRow w0.heap.size e K v m xs := fun hr he => hz.own hr (fun b hb e => cel_own_ne hc hr he (by rw [hb, e]))
  have o := h.own
  exact ⟨⟨j, rdr_x hj hg hc (by decide) hz⟩, hz.cel h.box (fun e => hp e.symm), ⟨key o.pr (by decide), hz.own o.pd hne, ⟨key o.cl.row (by decide), fun p hp => key (o.cl.ins p hp) (by decide), o.cl.apart⟩, ⟨key o.ru.row (by decide), fun p hp => key (o.ru.ins p hp) (by decide), o.ru.apart⟩, ⟨key o.gr.row (by decide), fun p hp => key (o.gr.ins p hp) (by decide), o.gr.apart⟩, o.eC, o.eU, o.eG, o.qu, o.bu, o.aC, o.aU⟩, hz.since h.sin (fun x hx => by rw [hx]; exact hlo), h.lo⟩
theorem allL_mem {s : Txt} : ∀ t ∈ (allL s).1, t ∈ (toksL s).1 := by
  intro t ht
  unfold allL at ht
  split at ht
  · cases ht
  · cases h2 : toksL s with
    | mk l x =>
      rw [h2] at ht
      cases x with
      | none => exact ht
      | some y => cases ht
theorem tk_fits {s : Txt} (hs : s.length ≤ 65536) {t : Tk} (h : t ∈ (allL s).1) : t.2.1.length ≤ 65536 := by
  have hg := (toksF_good (s.length + 1) s 0 t (allL_mem t h)).2.2.1
  omega
theorem toksF_cnt : ∀ (f : Nat) (r : List UInt8) (i : Nat), (toksF f r i).1.length ≤ r.length
  | 0, _, _ => by simp [toksF]
  | f + 1, r, i => by
    rw [toksF]
    cases hk : tokN (r.drop (skipN false r)) with
    | none => simp
    | some x =>
      cases x with
      | error e => simp
      | ok p =>
        obtain ⟨q, u⟩ := p
        obtain ⟨h1, r', h2⟩ := tokN_len hk
        have hl := congrArg List.length h2
        rw [List.length_drop, List.length_append] at hl
        have := toksF_cnt f (r.drop (skipN false r + u.length)) (i + skipN false r + u.length)
        rw [List.length_drop] at this
        simp only [List.length_cons]
        omega
theorem all_many {s : Txt} (hs : s.length ≤ 65536) : (allL s).1.length ≤ 65536 := by
  unfold allL
  split
  · exact Nat.zero_le _
  · cases h2 : toksL s with
    | mk l x =>
      cases x with
      | none => exact Nat.le_trans (by have h := toksF_cnt (s.length + 1) s 0; rw [show toksF (s.length + 1) s 0 = toksL s from rfl, h2] at h; exact h) hs
      | some y => exact Nat.zero_le _
theorem polR_err {ts : Toks} {st : PSt} {e : PErr} (h : polS pst0 (.ok ts) = (st, .error e)) : polT ts = .error e := by
  have ha := pol_agr ts
  cases hp : polT ts with
  | ok st1 =>
    rw [hp] at ha
    obtain ⟨r1, h1⟩ := ha
    rw [h] at h1
    injection h1 with _ h2
    cases h2
  | error x =>
    rw [hp] at ha
    have h1 : (polS pst0 (.ok ts)).2 = .error x := ha
    rw [h] at h1
    injection h1 with h1
    rw [h1]
theorem polR_ok {ts r : Toks} {st : PSt} (h : polS pst0 (.ok ts) = (st, .ok r)) : polT ts = .ok st := by
  have ha := pol_agr ts
  cases hp : polT ts with
  | ok st1 =>
    rw [hp] at ha
    obtain ⟨r1, h1⟩ := ha
    rw [h] at h1
    injection h1 with h2 _
    rw [h2]
  | error x =>
    rw [hp] at ha
    have h1 : (polS pst0 (.ok ts)).2 = .error x := ha
    rw [h] at h1
    cases h1
theorem st_pol {o : Oper} {x y : Operand} {ev : Operand → Value} {g k : Nat} {cells : Array Value} (ho : o.op = Op.store 29 x y) (hx : ev x = .pointer (some ⟨g, k, none⟩)) (hy : ev y = .agg cells) (W : World) (ht : W.there g k cells.size) (hs : cells.size = 7) (h1 : cells.all (·.oneCell') = true) :
    (execOp ev o).run Tryz.prog W = .ok .skip (W.setCells g k cells.toList) := by
  have h := run_storeAt_mid (P := Tryz.prog) W g k 29 cells ht (by rw [hs]; kernel_rfl) h1
  simp only [execOp, ho, hx, hy, Sem.run_bind, h]
  rfl
set_option maxHeartbeats 16000000 in
set_option maxRecDepth 100000 in
theorem rpolicy_any (s : Txt) (hs : s.length ≤ 65536) (w : World) : Calls Tryz.prog 28 #[.string ⟨s.toArray⟩] w (PolPost s w) := by
  obtain ⟨K, hK⟩ : ∃ K : Ending → World → Prop, Hid (K = PolPost s w) := ⟨_, rfl⟩
  have hgood : Hid (∀ (P : Pol) (a : Nat) (e : Int) w' c3 c4 c5 c6 c7 c8 c9 C U G, policyL s = (P, a, e) → POwn w' w.heap.size c3 c4 c5 c6 c7 c8 c9 P C U G → Since w w' → K (.returned (.tuple #[.agg #[c3, c4, c5, c6, c7, c8, c9], .int .i64 (a : Int), .int .i64 e])) w') := by
    intro P a e w' c3 c4 c5 c6 c7 c8 c9 C U G h1 h2 h3
    rw [hK.out]
    exact ⟨c3, c4, c5, c6, c7, c8, c9, C, U, G, by rw [h1], by rw [h1]; exact h2, h3⟩
  rw [← hK.out]
  have hS1 : Since w (w.alloc (.cells #[.slice none 0 0, .slice none 0 0, .slice none 0 0, .int .i64 0, .int .i64 0, .slice none 0 0, .slice none 0 0] 29)) := (Since.refl w).alloc _
  have hR1 : Cel (w.alloc (.cells #[.slice none 0 0, .slice none 0 0, .slice none 0 0, .int .i64 0, .int .i64 0, .slice none 0 0, .slice none 0 0] 29)) w.heap.size #[.slice none 0 0, .slice none 0 0, .slice none 0 0, .int .i64 0, .int .i64 0, .slice none 0 0, .slice none 0 0] 29 := heap_alloc_new w _
  have HA := Lib.hid (rall_any s (w.alloc (.cells #[.slice none 0 0, .slice none 0 0, .slice none 0 0, .int .i64 0, .int .i64 0, .slice none 0 0, .slice none 0 0] 29)) hs)
  unfold AllPost at HA
  have hfit : ∀ x ∈ txtsK (allL s).1, x.length ≤ 65536 := fun x hx => by
    unfold txtsK at hx
    obtain ⟨t, ht, rfl⟩ := List.mem_map.1 hx
    exact tk_fits hs ht
  have hmany : (allL s).1.length ≤ 65536 := all_many hs
  have hpl : policyL s = if (allL s).2.2 = 0 then (match polT (txtsK (allL s).1) with
    | .ok st => (st.p, 0, 0)
    | .error (k, e) => (pol0, placeK (allL s).1 s.length k, e)) else (pol0, (allL s).2.1, (allL s).2.2) := rfl
  obtain ⟨R, hR⟩ : ∃ R, Hid (R = allL s) := ⟨_, rfl⟩
  rw [← hR.out] at HA hfit hmany hpl
  obtain ⟨TL, A0, e0⟩ := R
  simp only at HA hfit hmany hpl
  have HF := Lib.hid hfit
  have HMN := Lib.hid hmany
  have HP0 := Lib.hid hpl
  clear hK hR hs hfit hmany hpl
  go_enter Tryz.func28, Tryz.ntmps28
  go_upto_region 1 with (fail)
  generalize (w.alloc (.cells #[.slice none 0 0, .slice none 0 0, .slice none 0 0, .int .i64 0, .int .i64 0, .slice none 0 0, .slice none 0 0] 29)) = w1 at *
  obtain ⟨rb, hrb⟩ : ∃ x, Hid (x = w.heap.size) := ⟨_, rfl⟩
  simp only [← hrb.out]
  rw [← hrb.out] at hR1
  have HRL2 : Hid (w.heap.size ≤ rb) := by show _ ≤ _; rw [hrb.out]; exact Nat.le_refl _
  clear hrb
  go_wp2_with fail
  refine HA.out.mono ?_
  rintro e w2 ⟨lv, rfl, hown, hb⟩
  have hS2 := hS1.trans hb
  have hR2 := hR1.next hb
  clear HA hb hS1 hR1
  by_cases he : ¬ e0 = 0
  · have hpl : policyL s = (pol0, A0, e0) := by rw [HP0.out, if_neg he]
    obtain ⟨la, lc, rfl⟩ := own_slice hown
    have hone : Hid (((#[.slice none 0 0, .slice none 0 0, .slice none 0 0, .int .i64 0, .int .i64 0, .slice none 0 0, .slice none 0 0] : Array Value).all (·.oneCell')) = true) := by show _ = _; simp [Value.oneCell']
    have hNN := hR2.row #[.slice none 0 0, .slice none 0 0, .slice none 0 0, .int .i64 0, .int .i64 0, .slice none 0 0, .slice none 0 0]
    have hfin := Lib.hid (hgood.out _ _ _ (w2.setRow rb #[.slice none 0 0, .slice none 0 0, .slice none 0 0, .int .i64 0, .int .i64 0, .slice none 0 0, .slice none 0 0]) _ _ _ _ _ _ _ _ _ _ hpl (POwn.nil _ _) ((row_setRow hR2).since hS2 (fun x hx => by rw [hx]; exact HRL2.out)))
    clear hown HF HMN HP0 hpl hS2
    go_wp2_with (refine wpList_store_row rfl 29 (.tmp 2) (.tmp 21) rfl rb #[.slice none 0 0, .slice none 0 0, .slice none 0 0, .int .i64 0, .int .i64 0, .slice none 0 0, .slice none 0 0] rfl rfl 29 #[.slice none 0 0, .slice none 0 0, .slice none 0 0, .int .i64 0, .int .i64 0, .slice none 0 0, .slice none 0 0] hR2 polinfoC rfl hone.out ?_)
    generalize (w2.setRow rb #[.slice none 0 0, .slice none 0 0, .slice none 0 0, .int .i64 0, .int .i64 0, .slice none 0 0, .slice none 0 0]) = wq at *
    clear hR2 hone
    have q0 : wq.cell? ⟨rb, 0, none⟩ = some (.slice none 0 0) := hNN.cell 0
    have q1 : wq.cell? ⟨rb, 1, none⟩ = some (.slice none 0 0) := hNN.cell 1
    have q2 : wq.cell? ⟨rb, 2, none⟩ = some (.slice none 0 0) := hNN.cell 2
    have q3 : wq.cell? ⟨rb, 3, none⟩ = some (.int .i64 0) := hNN.cell 3
    have q4 : wq.cell? ⟨rb, 4, none⟩ = some (.int .i64 0) := hNN.cell 4
    have q5 : wq.cell? ⟨rb, 5, none⟩ = some (.slice none 0 0) := hNN.cell 5
    have q6 : wq.cell? ⟨rb, 6, none⟩ = some (.slice none 0 0) := hNN.cell 6
    refine bodyPost_ret (v := .tuple #[.agg #[.slice none 0 0, .slice none 0 0, .slice none 0 0, .int .i64 0, .int .i64 0, .slice none 0 0, .slice none 0 0], .int .i64 (A0 : Int), .int .i64 e0]) ?_ rfl hfin.out
    clear hfin hNN
    try simp at q0 q1 q2 q3 q4 q5 q6
    simp [results, Tryz.results28, go_sem, q0, q1, q2, q3, q4, q5, q6]
  replace he : e0 = 0 := by omega
  subst he
  have HPL : Hid ((∀ st k e, polS pst0 (.ok (txtsK TL)) = (st, .error (k, e)) → policyL s = (pol0, placeK TL s.length k, e)) ∧ (∀ st r, polS pst0 (.ok (txtsK TL)) = (st, .ok r) → policyL s = (st.p, 0, 0))) := by
    refine ⟨fun st k e h => ?_, fun st r h => ?_⟩
    · rw [HP0.out, if_pos rfl, polR_err h]
    · rw [HP0.out, if_pos rfl, polR_ok h]
  obtain ⟨X, hXX⟩ : ∃ X, Hid (X = polS pst0 (.ok (txtsK TL))) := ⟨_, rfl⟩
  rw [← hXX.out] at HPL
  obtain ⟨la, lc, hlv⟩ := own_slice hown
  have hown0 := own_base hown (Nat.zero_le _)
  clear HP0 hown
  obtain ⟨w3, hw3⟩ : ∃ W, Hid (W = w2) := ⟨_, rfl⟩
  rw [← hw3.out] at hS2 hR2 hown0
  have HS3 := Lib.hid hS2
  have HB3 := Lib.hid hS2.size
  have HRB := Lib.hid hR2
  have hlen : (txtsK TL).length = TL.length := by unfold txtsK; rw [List.length_map]
  have hPX : PX w3 ((w3.alloc (.cells #[lv, .int .i64 0, .int .i64 (s.length : Int), .int .i64 0, .int .i64 0] 95)).alloc (.cells #[.slice none 0 0, .slice none 0 0, .slice none 0 0, .int .i64 0, .int .i64 0, .slice none 0 0, .slice none 0 0] 29)) w3.heap.size (w3.heap.size + 1) lv TL s.length (.ok (txtsK TL)) pol0 (.slice none 0 0) (.slice none 0 0) (.slice none 0 0) (.int .i64 0) (.int .i64 0) (.slice none 0 0) (.slice none 0 0) [] [] [] := by
    have h1 : Since w3 (w3.alloc (.cells #[lv, .int .i64 0, .int .i64 (s.length : Int), .int .i64 0, .int .i64 0] 95)) := (Since.refl _).alloc _
    have h2 := h1.alloc (.cells #[.slice none 0 0, .slice none 0 0, .slice none 0 0, .int .i64 0, .int .i64 0, .slice none 0 0, .slice none 0 0] 29)
    have h3 : Cel (w3.alloc (.cells #[lv, .int .i64 0, .int .i64 (s.length : Int), .int .i64 0, .int .i64 0] 95)) w3.heap.size #[lv, .int .i64 0, .int .i64 (s.length : Int), .int .i64 0, .int .i64 0] 95 := heap_alloc_new _ _
    have h4 : Cel ((w3.alloc (.cells #[lv, .int .i64 0, .int .i64 (s.length : Int), .int .i64 0, .int .i64 0] 95)).alloc (.cells #[.slice none 0 0, .slice none 0 0, .slice none 0 0, .int .i64 0, .int .i64 0, .slice none 0 0, .slice none 0 0] 29)) (w3.heap.size + 1) #[.slice none 0 0, .slice none 0 0, .slice none 0 0, .int .i64 0, .int .i64 0, .slice none 0 0, .slice none 0 0] 29 := by
      have k := heap_alloc_new (w3.alloc (.cells #[lv, .int .i64 0, .int .i64 (s.length : Int), .int .i64 0, .int .i64 0] 95)) (.cells #[.slice none 0 0, .slice none 0 0, .slice none 0 0, .int .i64 0, .int .i64 0, .slice none 0 0, .slice none 0 0] 29)
      rwa [World.size_alloc] at k
    refine ⟨⟨0, h3.next ((Since.refl _).alloc _), own_since hown0 h2, HMN.out, Nat.zero_le _, fun r e => ?_, fun e h => by cases h⟩, h4, POwn.nil _ _, h2, Nat.le_refl _, Nat.le_succ _⟩
    injection e with e
    subst e
    exact ⟨by rw [hlen]; omega, [], rfl⟩
  have hroom : Hid (RoomS pst0.p (.ok (txtsK TL))) := by
    have h1 : leftS (.ok (txtsK TL)) ≤ 65537 := by show (txtsK TL).length + 1 ≤ _; rw [hlen]; have := HMN.out; omega
    show RoomS pol0 _
    unfold RoomS pol0
    simp only [List.length_nil, Nat.zero_add]
    exact ⟨h1, h1, h1, h1, h1⟩
  subst hlv
  clear hS2 hR2 hown0 hlen
  rw [← hw3.out]
  clear hw3
  obtain ⟨w5, hw5⟩ : ∃ W, Hid (W = ((w3.alloc (.cells #[.slice la TL.length lc, .int .i64 0, .int .i64 (s.length : Int), .int .i64 0, .int .i64 0] 95)).alloc (.cells #[.slice none 0 0, .slice none 0 0, .slice none 0 0, .int .i64 0, .int .i64 0, .slice none 0 0, .slice none 0 0] 29))) := ⟨_, rfl⟩
  rw [← hw5.out] at hPX
  go_upto_region 7 with (fail)
  rw [← hw5.out]
  clear hw5
  obtain ⟨g, hg⟩ : ∃ x, Hid (x = w3.heap.size) := ⟨_, rfl⟩
  obtain ⟨gp, hgp⟩ : ∃ x, Hid (x = w3.heap.size + 1) := ⟨_, rfl⟩
  simp only [← hgp.out]
  simp only [← hg.out]
  rw [← hgp.out, ← hg.out] at hPX
  clear hg hgp
  obtain ⟨lv, hlv⟩ : ∃ x, Hid (x = Value.slice la TL.length lc) := ⟨_, rfl⟩
  rw [← hlv.out] at hPX
  clear hlv
  go_loopg [10, 11] (leftS (.ok (txtsK TL))) (fun m qv bv wr => ∃ (st : PSt) (q : RS), m = leftS q ∧ qv = .bool st.q ∧ bv = .bool st.b ∧ Hid (X = polS st q) ∧ PG w3 wr g gp lv TL s.length q st.p ∧ Hid (RoomS st.p q))
  case atStart => exact ⟨pst0, _, rfl, rfl, rfl, hXX, ⟨_, _, _, _, _, _, _, _, _, _, hPX⟩, hroom⟩
  case round =>
  clear hPX hXX hroom
  obtain ⟨⟨P, fq, fb⟩, q, rfl, rfl, rfl, HX, ⟨c3, c4, c5, c6, c7, c8, c9, C, U, G, hX⟩, HRS⟩ := hrel
  obtain ⟨n, hn⟩ : ∃ n : Nat, Hid (n = s.length) := ⟨_, rfl⟩
  cases q with
  | error e0 =>
    obtain ⟨k0, er⟩ := e0
    have hXe : X = (⟨P, fq, fb⟩, .error (k0, er)) := HX.out
    have hpl := HPL.out.1 ⟨P, fq, fb⟩ k0 er hXe
    obtain ⟨j, hr⟩ := hX.rd
    have he : ¬ er = 0 := hr.bad _ rfl
    have hRB : Cel wr g #[lv, .int .i64 (j : Int), .int .i64 (s.length : Int), .int .i64 (placeK TL s.length k0 : Int), .int .i64 er] 95 := hr.cel
    have c4 : wr.cell? ⟨g, 4, none⟩ = some (.int .i64 er) := hr.cel.cell 4
    have hR6 : Cel wr rb #[.slice none 0 0, .slice none 0 0, .slice none 0 0, .int .i64 0, .int .i64 0, .slice none 0 0, .slice none 0 0] 29 := HRB.out.next hX.sin
    have hSS := HS3.out.trans hX.sin
    have hne : ¬ g = rb := fun e => cel_cel_ne hRB hR6 (by decide) e
    clear hr HF HPL hXe HX HRS hX
    go_upto_region 26 with (fail)
    clear c4
    have hSd : Since wr wr.drew := (Since.refl _).drew
    replace hRB := hRB.next hSd
    replace hR6 := hR6.next hSd
    replace hSS := hSS.trans hSd
    clear hSd
    refine hx_begin (S := fun W => Cel W g #[lv, .int .i64 (j : Int), .int .i64 (s.length : Int), .int .i64 (placeK TL s.length k0 : Int), .int .i64 er] 95) (by kernel_rfl) hRB (by kernel_rfl) (fun _ _ _ _ _ h => h) (fun hns hQ => ?_)
    refine hx_take (i := 0) (oi := _) (v := .agg #[.slice none 0 0, .slice none 0 0, .slice none 0 0, .int .i64 0, .int .i64 0, .slice none 0 0, .slice none 0 0]) rfl rfl hns (by kernel_rfl) (by kernel_rfl) hQ (by kernel_rfl) (fun _ _ => by kernel_rfl) hRB ?_
    refine hx_take (i := 1) (oi := _) (v := .pointer (some ⟨g, 0, none⟩)) rfl rfl hns (by kernel_rfl) (by kernel_rfl) hQ (by kernel_rfl) (fun _ _ => by kernel_rfl) hRB ?_
    refine hx_take (i := 2) (oi := _) (v := .pointer (some ⟨g, 0, none⟩)) rfl rfl hns (by kernel_rfl) (by kernel_rfl) hQ (by kernel_rfl) (fun _ _ => by kernel_rfl) hRB ?_
    refine hx_take (i := 3) (oi := _) (v := .pointer (some ⟨g, 3, none⟩)) rfl rfl hns (by kernel_rfl) (by kernel_rfl) hQ (by kernel_rfl) (fun _ _ => by kernel_rfl) hRB ?_
    refine hx_take (i := 4) (oi := _) (v := .int .i64 (placeK TL s.length k0 : Int)) rfl rfl hns (by kernel_rfl) (by kernel_rfl) hQ (by kernel_rfl) (fun W hW => ld_one rfl (by kernel_rfl) (by kernel_rfl) W (Cel.cell hW 3)) hRB ?_
    refine hx_take (i := 5) (oi := _) (v := .pointer (some ⟨g, 0, none⟩)) rfl rfl hns (by kernel_rfl) (by kernel_rfl) hQ (by kernel_rfl) (fun _ _ => by kernel_rfl) hRB ?_
    refine hx_take (i := 6) (oi := _) (v := .pointer (some ⟨g, 0, none⟩)) rfl rfl hns (by kernel_rfl) (by kernel_rfl) hQ (by kernel_rfl) (fun _ _ => by kernel_rfl) hRB ?_
    refine hx_take (i := 7) (oi := _) (v := .pointer (some ⟨g, 4, none⟩)) rfl rfl hns (by kernel_rfl) (by kernel_rfl) hQ (by kernel_rfl) (fun _ _ => by kernel_rfl) hRB ?_
    refine hx_take (i := 8) (oi := _) (v := .int .i64 er) rfl rfl hns (by kernel_rfl) (by kernel_rfl) hQ (by kernel_rfl) (fun W hW => ld_one rfl (by kernel_rfl) (by kernel_rfl) W (Cel.cell hW 4)) hRB ?_
    have hTH : wr.drew.there rb 0 7 := cel_there hR6 (by show 0 + 7 ≤ 7; decide)
    have hNN : Cel (wr.drew.setCells rb 0 (#[.slice none 0 0, .slice none 0 0, .slice none 0 0, .int .i64 0, .int .i64 0, .slice none 0 0, .slice none 0 0] : Array Value).toList) rb #[.slice none 0 0, .slice none 0 0, .slice none 0 0, .int .i64 0, .int .i64 0, .slice none 0 0, .slice none 0 0] 29 := cel_setsV hR6 _ 0 (by simp [setsV])
    have hZN := only_sets wr.drew rb 0 (#[.slice none 0 0, .slice none 0 0, .slice none 0 0, .int .i64 0, .int .i64 0, .slice none 0 0, .slice none 0 0] : Array Value).toList
    have hfin := Lib.hid (hgood.out _ _ _ (wr.drew.setCells rb 0 (#[.slice none 0 0, .slice none 0 0, .slice none 0 0, .int .i64 0, .int .i64 0, .slice none 0 0, .slice none 0 0] : Array Value).toList) _ _ _ _ _ _ _ _ _ _ hpl (POwn.nil _ _) (hZN.since hSS (fun x hx => by rw [hx]; exact HRL2.out)))
    refine hx_store (i := 9) (oi := _) (wr.drew.setCells rb 0 (#[.slice none 0 0, .slice none 0 0, .slice none 0 0, .int .i64 0, .int .i64 0, .slice none 0 0, .slice none 0 0] : Array Value).toList) rfl rfl (by kernel_rfl) (by kernel_rfl) (st_pol rfl (by kernel_rfl) (by kernel_rfl) _ hTH rfl (by simp [Value.oneCell'])) (hZN.cel hRB hne) ?_
    replace hRB := hZN.cel hRB hne
    refine hx_take (i := 10) (oi := _) (v := .int .i64 (placeK TL s.length k0 : Int)) rfl rfl hns (by kernel_rfl) (by kernel_rfl) hQ (by kernel_rfl) (fun _ _ => by kernel_rfl) hRB ?_
    refine hx_take (i := 11) (oi := _) (v := .int .i64 er) rfl rfl hns (by kernel_rfl) (by kernel_rfl) hQ (by kernel_rfl) (fun _ _ => by kernel_rfl) hRB ?_
    refine wpAnyH_done (by kernel_rfl) ?_ _
    clear hns hQ
    simp only [List.set_cons_zero, List.set_cons_succ]
    clear hRB hR6 hSS hTH hZN
    generalize (wr.drew.setCells rb 0 (#[.slice none 0 0, .slice none 0 0, .slice none 0 0, .int .i64 0, .int .i64 0, .slice none 0 0, .slice none 0 0] : Array Value).toList) = wq at *
    go_wp2_with fail
    have q0 : wq.cell? ⟨rb, 0, none⟩ = some (.slice none 0 0) := hNN.cell 0
    have q1 : wq.cell? ⟨rb, 1, none⟩ = some (.slice none 0 0) := hNN.cell 1
    have q2 : wq.cell? ⟨rb, 2, none⟩ = some (.slice none 0 0) := hNN.cell 2
    have q3 : wq.cell? ⟨rb, 3, none⟩ = some (.int .i64 0) := hNN.cell 3
    have q4 : wq.cell? ⟨rb, 4, none⟩ = some (.int .i64 0) := hNN.cell 4
    have q5 : wq.cell? ⟨rb, 5, none⟩ = some (.slice none 0 0) := hNN.cell 5
    have q6 : wq.cell? ⟨rb, 6, none⟩ = some (.slice none 0 0) := hNN.cell 6
    refine bodyPost_ret (v := .tuple #[.agg #[.slice none 0 0, .slice none 0 0, .slice none 0 0, .int .i64 0, .int .i64 0, .slice none 0 0, .slice none 0 0], .int .i64 (placeK TL s.length k0 : Int), .int .i64 er]) ?_ rfl hfin.out
    clear hfin hNN
    try simp at q0 q1 q2 q3 q4 q5 q6
    simp [results, Tryz.results28, go_sem, q0, q1, q2, q3, q4, q5, q6]
  | ok r =>
    by_cases h0 : r.length = 0
    · have hXe : X = (⟨P, fq, fb⟩, .ok r) := by rw [HX.out]; exact polS_end _ _ h0
      have hpl := HPL.out.2 ⟨P, fq, fb⟩ r hXe
      obtain ⟨a3, e3, rfl⟩ := own_slice hX.own.pr
      obtain ⟨a4, e4, rfl⟩ := own_slice hX.own.pd
      obtain ⟨a5, e5, rfl⟩ := own_slice hX.own.cl.row
      obtain rfl := hX.own.qu
      obtain rfl := hX.own.bu
      obtain ⟨a8, e8, rfl⟩ := own_slice hX.own.ru.row
      obtain ⟨a9, e9, rfl⟩ := own_slice hX.own.gr.row
      obtain ⟨j, hr⟩ := hX.rd
      have c4 : wr.cell? ⟨g, 4, none⟩ = some (.int .i64 0) := hr.cel.cell 4
      have c1 : wr.cell? ⟨g, 1, none⟩ = some (.int .i64 (j : Int)) := hr.cel.cell 1
      have hcnd : ¬ (j : Int) < (TL.length : Int) := by
        have := hr.sub
        omega
      have k0 : wr.cell? ⟨gp, 0, none⟩ = some (.slice a3 P.pr.length e3) := hX.box.cell 0
      have k1 : wr.cell? ⟨gp, 1, none⟩ = some (.slice a4 P.pd.length e4) := hX.box.cell 1
      have k2 : wr.cell? ⟨gp, 2, none⟩ = some (.slice a5 C.length e5) := hX.box.cell 2
      have k3 : wr.cell? ⟨gp, 3, none⟩ = some (.int .i64 P.qu) := hX.box.cell 3
      have k4 : wr.cell? ⟨gp, 4, none⟩ = some (.int .i64 P.bu) := hX.box.cell 4
      have k5 : wr.cell? ⟨gp, 5, none⟩ = some (.slice a8 U.length e8) := hX.box.cell 5
      have k6 : wr.cell? ⟨gp, 6, none⟩ = some (.slice a9 G.length e9) := hX.box.cell 6
      have hRB := hX.sin.trans (Since.refl _)
      have hR6 : Cel wr rb #[.slice none 0 0, .slice none 0 0, .slice none 0 0, .int .i64 0, .int .i64 0, .slice none 0 0, .slice none 0 0] 29 := HRB.out.next hX.sin
      have hone : Hid (((#[.slice a3 P.pr.length e3, .slice a4 P.pd.length e4, .slice a5 C.length e5, .int .i64 P.qu, .int .i64 P.bu, .slice a8 U.length e8, .slice a9 G.length e9] : Array Value).all (·.oneCell')) = true) := by show _ = _; simp [Value.oneCell']
      have hNN := hR6.row #[.slice a3 P.pr.length e3, .slice a4 P.pd.length e4, .slice a5 C.length e5, .int .i64 P.qu, .int .i64 P.bu, .slice a8 U.length e8, .slice a9 G.length e9]
      have hfin := Lib.hid (hgood.out _ _ _ (wr.setRow rb #[.slice a3 P.pr.length e3, .slice a4 P.pd.length e4, .slice a5 C.length e5, .int .i64 P.qu, .int .i64 P.bu, .slice a8 U.length e8, .slice a9 G.length e9]) _ _ _ _ _ _ _ _ _ _ hpl ((hX.own.base HB3.out).setRow hR6) ((row_setRow hR6).since (HS3.out.trans hX.sin) (fun x hx => by rw [hx]; exact HRL2.out)))
      clear hr hRB HF HPL hXe HX HRS hX
      go_wp2_with (refine wpList_store_row rfl 29 (.tmp 2) (.tmp 116) rfl rb #[.slice a3 P.pr.length e3, .slice a4 P.pd.length e4, .slice a5 C.length e5, .int .i64 P.qu, .int .i64 P.bu, .slice a8 U.length e8, .slice a9 G.length e9] rfl rfl 29 #[.slice none 0 0, .slice none 0 0, .slice none 0 0, .int .i64 0, .int .i64 0, .slice none 0 0, .slice none 0 0] hR6 polinfoC rfl hone.out ?_)
      generalize (wr.setRow rb #[.slice a3 P.pr.length e3, .slice a4 P.pd.length e4, .slice a5 C.length e5, .int .i64 P.qu, .int .i64 P.bu, .slice a8 U.length e8, .slice a9 G.length e9]) = wq at *
      clear k0 k1 k2 k3 k4 k5 k6 c4 c1 hcnd hR6 hone
      have q0 : wq.cell? ⟨rb, 0, none⟩ = some (.slice a3 P.pr.length e3) := hNN.cell 0
      have q1 : wq.cell? ⟨rb, 1, none⟩ = some (.slice a4 P.pd.length e4) := hNN.cell 1
      have q2 : wq.cell? ⟨rb, 2, none⟩ = some (.slice a5 C.length e5) := hNN.cell 2
      have q3 : wq.cell? ⟨rb, 3, none⟩ = some (.int .i64 P.qu) := hNN.cell 3
      have q4 : wq.cell? ⟨rb, 4, none⟩ = some (.int .i64 P.bu) := hNN.cell 4
      have q5 : wq.cell? ⟨rb, 5, none⟩ = some (.slice a8 U.length e8) := hNN.cell 5
      have q6 : wq.cell? ⟨rb, 6, none⟩ = some (.slice a9 G.length e9) := hNN.cell 6
      refine bodyPost_ret (v := .tuple #[.agg #[.slice a3 P.pr.length e3, .slice a4 P.pd.length e4, .slice a5 C.length e5, .int .i64 P.qu, .int .i64 P.bu, .slice a8 U.length e8, .slice a9 G.length e9], .int .i64 0, .int .i64 0]) ?_ rfl hfin.out
      clear hfin hNN
      try simp at q0 q1 q2 q3 q4 q5 q6
      simp [results, Tryz.results28, go_sem, q0, q1, q2, q3, q4, q5, q6]
    · have HXS : Hid (X = polS (stmtX ⟨P, fq, fb⟩ r).1 (stmtX ⟨P, fq, fb⟩ r).2) := by show _ = _; rw [HX.out]; exact polS_step _ _ h0
      have HLS : Hid (leftS (stmtX ⟨P, fq, fb⟩ r).2 < leftS (.ok r)) := polS_left _ _
      obtain ⟨jr, hrr⟩ := hX.rd
      have c4 : wr.cell? ⟨g, 4, none⟩ = some (.int .i64 0) := hrr.cel.cell 4
      have c1 : wr.cell? ⟨g, 1, none⟩ = some (.int .i64 (jr : Int)) := hrr.cel.cell 1
      have hsub := hrr.sub
      have hcnd : (jr : Int) < (TL.length : Int) := by omega
      have HRL : Hid (r.length ≤ TL.length) := hsub.1
      have HR0 : Hid (0 < r.length) := by show 0 < _; omega
      rw [← hn.out] at hX
      simp only at HRS
      clear HX hsub h0 hrr
      go_upto_region 9 with (fail)
      clear c4 c1 hcnd
      obtain ⟨j0, hr0⟩ := hX.rd
      cases hw1 : isT wPrincipal r with
      | true =>
        have HMX : Hid (Calls Tryz.prog 49 #[.pointer (some ⟨g, 0, none⟩), .string ⟨#[112, 114, 105, 110, 99, 105, 112, 97, 108]⟩] wr fun e w' => e = .returned (.bool true) ∧ (∃ j, Rdr w' g lv TL n (.ok (r.drop 1)) j) ∧ OnlyG g wr w') := rmaybe_yes hr0 hw1
        clear hr0
        go_wp2_with fail
        refine HMX.out.mono ?_
        rintro e wa ⟨rfl, hrm, hkm⟩
        replace hX := hX.only hrm hkm
        clear HMX hrm hkm
        have hp : stmtX ⟨P, fq, fb⟩ r = (⟨{ P with pr := P.pr ++ [nextV principalB (.ok (r.drop 1))] }, fq, fb⟩, mustS [46] (nextS principalB (.ok (r.drop 1)))) := by unfold stmtX; rw [partX, if_pos hw1]
        rw [hp] at HXS HLS
        obtain ⟨t, ht⟩ : ∃ x, Hid (x = nextV principalB (.ok (r.drop 1))) := ⟨_, rfl⟩
        obtain ⟨q4, hq4⟩ : ∃ x, Hid (x = nextS principalB (.ok (r.drop 1))) := ⟨_, rfl⟩
        have HN4 : Hid (∀ W, (∃ j, Rdr W g lv TL n (.ok (r.drop 1)) j) → Calls Tryz.prog 50 #[.pointer (some ⟨g, 0, none⟩), .int .i64 0] W fun e w' => e = .returned (.string ⟨t.toArray⟩) ∧ (∃ j, Rdr w' g lv TL n q4 j) ∧ OnlyG g W w') := fun W h => by
          obtain ⟨j, h⟩ := h
          rw [ht.out, hq4.out]
          exact rnext_any 0 principalB (fun t W ht => rmay_princ t W ht) HF.out h
        rw [← ht.out, ← hq4.out] at HXS
        rw [← hq4.out] at HLS
        obtain ⟨va, vc, rfl⟩ := own_slice hX.own.pr
        obtain ⟨i5, hi5, hz0, hz1, hz2⟩ := info_parts info_pr
        have I5 := Lib.hid (And.intro hi5 (And.intro hz0 (And.intro hz1 hz2)))
        clear hi5 hz0 hz1 hz2
        have HB1 : Hid (P.pr.length + 1 ≤ 65537) := by show _ ≤ _; have := HRS.out.1; have h0 : 0 < leftS (.ok r) := Nat.succ_pos _; omega
        clear hp ht hq4 hw1
        go_upto_region 10 with (fail)
        have hSd : Since wa wa.drew := (Since.refl _).drew
        replace hX := hX.next hSd
        clear hSd
        refine hx_begin (S := fun _ => True) (by kernel_rfl) trivial (by kernel_rfl) (fun _ _ _ _ _ h => h) (fun hns hQ => ?_)
        refine hx_take (i := 0) (oi := _) (v := .pointer (some ⟨gp, 0, none⟩)) rfl rfl hns (by kernel_rfl) (by kernel_rfl) hQ (by kernel_rfl) (fun _ _ => by kernel_rfl) trivial ?_
        refine hx_take (i := 2) (oi := _) (v := .pointer (some ⟨g, 0, none⟩)) rfl rfl hns (by kernel_rfl) (by kernel_rfl) hQ (by kernel_rfl) (fun _ _ => by kernel_rfl) trivial ?_
        refine hx_two_vc (i := 1) (j := 3) (.slice va P.pr.length vc) (wa.drew) 50 #[.pointer (some ⟨g, 0, none⟩), .int .i64 0] rfl rfl (by kernel_rfl) (by kernel_rfl) (by kernel_rfl) rfl (ld_one rfl (by kernel_rfl) (by kernel_rfl) wa.drew ((hX.box).cell 0)) trivial rfl (by kernel_rfl) (HN4.out _ hX.rd) ?_ ?_
        · refine hx_call (i := 3) (oi := _) 50 #[.pointer (some ⟨g, 0, none⟩), .int .i64 0] rfl rfl (by kernel_rfl) (by kernel_rfl) (by kernel_rfl) (HN4.out _ hX.rd) ?_
          rintro e wx51 ⟨rfl, hr4, hk4⟩
          replace hX := hX.only hr4 hk4
          clear hr4 hk4
          refine ⟨_, rfl, trivial, ?_⟩
          refine hx_make (i := 4) (oi := _) (.slice (some ⟨wx51.heap.size, 0, none⟩) 1 1) (wx51.alloc (.cells #[.string ⟨t.toArray⟩] 9)) rfl rfl (by kernel_rfl) (by kernel_rfl) (by kernel_rfl) trivial ?_
          have hSk : Since wx51 (wx51.alloc (.cells #[.string ⟨t.toArray⟩] 9)) := (Since.refl _).alloc _
          replace hX := hX.next hSk
          clear hSk
          have hKB : Cel (wx51.alloc (.cells #[.string ⟨t.toArray⟩] 9)) wx51.heap.size #[.string ⟨t.toArray⟩] 9 := heap_alloc_new _ _
          refine hx_append (i := 5) (oi := _) (.tmp 49) (.tmp 52) 23 w3.heap.size 9 i5 (.string ByteArray.empty) 1 16 (.slice va P.pr.length vc) P.pr.length _ _ (some ⟨wx51.heap.size, 0, none⟩) 1 1 (#[.string ⟨t.toArray⟩] : Array Value).toList rfl rfl (by kernel_rfl) (by kernel_rfl) rfl Tryz.underlying23 I5.out.1 I5.out.2.1 I5.out.2.2.1 I5.out.2.2.2 rfl (by decide) (by kernel_rfl) hX.own.pr (by kernel_rfl) (reads_celR hKB (K := 1) rfl) (by simp [Value.oneCell']) (by have := HB1.out; unfold maxLen; omega) (by have := HB1.out; omega) (hX.sin.size) ?_
          intro v6 w6 hown6 hg6 hat6
          obtain ⟨a6, c6, rfl⟩ := own_slice hown6
          have HZ0 := Lib.hid (hX.push_pr (x := t) (v6 := .slice a6 (P.pr.length + 1) c6) hown6 hg6 hat6)
          have hBx := cel_own hX.box hX.own.pr (by decide) hg6
          clear hown6 hg6 hat6
          refine ⟨trivial, ?_⟩
          refine hx_take (i := 6) (oi := _) (v := .pointer (some ⟨gp, 0, none⟩)) rfl rfl hns (by kernel_rfl) (by kernel_rfl) hQ (by kernel_rfl) (fun _ _ => by kernel_rfl) trivial ?_
          refine hx_store (i := 7) (oi := _) (w6.setCell ⟨gp, 0, none⟩ (.slice a6 (P.pr.length + 1) c6)) rfl rfl (by kernel_rfl) (by kernel_rfl) (st_pr rfl (by kernel_rfl) (by kernel_rfl) _ hBx rfl) trivial ?_
          refine wpAnyH_done (by kernel_rfl) ?_ _
          clear hns hQ
          simp only [List.set_cons_zero, List.set_cons_succ]
          have hZ := HZ0.out
          clear hX hBx hKB I5 i5 HN4 HZ0 HB1
          obtain ⟨jz, hrz⟩ := hZ.rd
          have HMU := Lib.hid (rmust_any [46] hrz)
          have HXN : Hid (X = polS (⟨{ P with pr := P.pr ++ [t] }, fq, fb⟩ : PSt) (mustS [46] q4)) := HXS.out
          have HLT : Hid (leftS (mustS [46] q4) < leftS (.ok r)) := HLS.out
          have HROOM : Hid (RoomS (⟨{ P with pr := P.pr ++ [t] }, fq, fb⟩ : PSt).p (mustS [46] q4)) := HRS.out.less HLT.out (by simp) (by simp) (by simp) (by simp) (by simp)
          clear hrz HXS HLS
          go_wp2_with fail
          refine HMU.out.mono ?_
          rintro e wz ⟨rfl, hr9, hk9⟩
          have hZ9 := hZ.only hr9 hk9
          clear HMU hZ hr9 hk9
          go_wp2_with fail
          go_roundg (leftS (mustS [46] q4))
          case measure => exact HLT.out
          case rel => exact ⟨(⟨{ P with pr := P.pr ++ [t] }, fq, fb⟩ : PSt), _, rfl, rfl, rfl, HXN, (by rw [← hn.out]; exact ⟨_, _, _, _, _, _, _, _, _, _, hZ9⟩), HROOM⟩
        · rintro e wx51 ⟨rfl, hr4, hk4⟩
          replace hX := hX.only hr4 hk4
          clear hr4 hk4
          refine ⟨_, rfl, trivial, ?_⟩
          refine hx_two_vv (i := 1) (j := 4) (.slice va P.pr.length vc) (wx51) (.slice (some ⟨wx51.heap.size, 0, none⟩) 1 1) ((wx51.alloc (.cells #[.string ⟨t.toArray⟩] 9))) rfl rfl (by kernel_rfl) (by kernel_rfl) (by kernel_rfl) rfl (ld_one rfl (by kernel_rfl) (by kernel_rfl) wx51 ((hX.box).cell 0)) trivial rfl (by kernel_rfl) trivial ?_ ?_
          · refine hx_make (i := 4) (oi := _) (.slice (some ⟨wx51.heap.size, 0, none⟩) 1 1) (wx51.alloc (.cells #[.string ⟨t.toArray⟩] 9)) rfl rfl (by kernel_rfl) (by kernel_rfl) (by kernel_rfl) trivial ?_
            have hSk : Since wx51 (wx51.alloc (.cells #[.string ⟨t.toArray⟩] 9)) := (Since.refl _).alloc _
            replace hX := hX.next hSk
            clear hSk
            have hKB : Cel (wx51.alloc (.cells #[.string ⟨t.toArray⟩] 9)) wx51.heap.size #[.string ⟨t.toArray⟩] 9 := heap_alloc_new _ _
            refine hx_append (i := 5) (oi := _) (.tmp 49) (.tmp 52) 23 w3.heap.size 9 i5 (.string ByteArray.empty) 1 16 (.slice va P.pr.length vc) P.pr.length _ _ (some ⟨wx51.heap.size, 0, none⟩) 1 1 (#[.string ⟨t.toArray⟩] : Array Value).toList rfl rfl (by kernel_rfl) (by kernel_rfl) rfl Tryz.underlying23 I5.out.1 I5.out.2.1 I5.out.2.2.1 I5.out.2.2.2 rfl (by decide) (by kernel_rfl) hX.own.pr (by kernel_rfl) (reads_celR hKB (K := 1) rfl) (by simp [Value.oneCell']) (by have := HB1.out; unfold maxLen; omega) (by have := HB1.out; omega) (hX.sin.size) ?_
            intro v6 w6 hown6 hg6 hat6
            obtain ⟨a6, c6, rfl⟩ := own_slice hown6
            have HZ0 := Lib.hid (hX.push_pr (x := t) (v6 := .slice a6 (P.pr.length + 1) c6) hown6 hg6 hat6)
            have hBx := cel_own hX.box hX.own.pr (by decide) hg6
            clear hown6 hg6 hat6
            refine ⟨trivial, ?_⟩
            refine hx_take (i := 6) (oi := _) (v := .pointer (some ⟨gp, 0, none⟩)) rfl rfl hns (by kernel_rfl) (by kernel_rfl) hQ (by kernel_rfl) (fun _ _ => by kernel_rfl) trivial ?_
            refine hx_store (i := 7) (oi := _) (w6.setCell ⟨gp, 0, none⟩ (.slice a6 (P.pr.length + 1) c6)) rfl rfl (by kernel_rfl) (by kernel_rfl) (st_pr rfl (by kernel_rfl) (by kernel_rfl) _ hBx rfl) trivial ?_
            refine wpAnyH_done (by kernel_rfl) ?_ _
            clear hns hQ
            simp only [List.set_cons_zero, List.set_cons_succ]
            have hZ := HZ0.out
            clear hX hBx hKB I5 i5 HN4 HZ0 HB1
            obtain ⟨jz, hrz⟩ := hZ.rd
            have HMU := Lib.hid (rmust_any [46] hrz)
            have HXN : Hid (X = polS (⟨{ P with pr := P.pr ++ [t] }, fq, fb⟩ : PSt) (mustS [46] q4)) := HXS.out
            have HLT : Hid (leftS (mustS [46] q4) < leftS (.ok r)) := HLS.out
            have HROOM : Hid (RoomS (⟨{ P with pr := P.pr ++ [t] }, fq, fb⟩ : PSt).p (mustS [46] q4)) := HRS.out.less HLT.out (by simp) (by simp) (by simp) (by simp) (by simp)
            clear hrz HXS HLS
            go_wp2_with fail
            refine HMU.out.mono ?_
            rintro e wz ⟨rfl, hr9, hk9⟩
            have hZ9 := hZ.only hr9 hk9
            clear HMU hZ hr9 hk9
            go_wp2_with fail
            go_roundg (leftS (mustS [46] q4))
            case measure => exact HLT.out
            case rel => exact ⟨(⟨{ P with pr := P.pr ++ [t] }, fq, fb⟩ : PSt), _, rfl, rfl, rfl, HXN, (by rw [← hn.out]; exact ⟨_, _, _, _, _, _, _, _, _, _, hZ9⟩), HROOM⟩
          · have hSk : Since wx51 (wx51.alloc (.cells #[.string ⟨t.toArray⟩] 9)) := (Since.refl _).alloc _
            replace hX := hX.next hSk
            clear hSk
            have hKB : Cel (wx51.alloc (.cells #[.string ⟨t.toArray⟩] 9)) wx51.heap.size #[.string ⟨t.toArray⟩] 9 := heap_alloc_new _ _
            refine hx_make (i := 1) (oi := _) (.slice va P.pr.length vc) ((wx51.alloc (.cells #[.string ⟨t.toArray⟩] 9))) rfl rfl (by kernel_rfl) (by kernel_rfl) (ld_one rfl (by kernel_rfl) (by kernel_rfl) (wx51.alloc (.cells #[.string ⟨t.toArray⟩] 9)) ((hX.box).cell 0)) trivial ?_
            refine hx_append (i := 5) (oi := _) (.tmp 49) (.tmp 52) 23 w3.heap.size 9 i5 (.string ByteArray.empty) 1 16 (.slice va P.pr.length vc) P.pr.length _ _ (some ⟨wx51.heap.size, 0, none⟩) 1 1 (#[.string ⟨t.toArray⟩] : Array Value).toList rfl rfl (by kernel_rfl) (by kernel_rfl) rfl Tryz.underlying23 I5.out.1 I5.out.2.1 I5.out.2.2.1 I5.out.2.2.2 rfl (by decide) (by kernel_rfl) hX.own.pr (by kernel_rfl) (reads_celR hKB (K := 1) rfl) (by simp [Value.oneCell']) (by have := HB1.out; unfold maxLen; omega) (by have := HB1.out; omega) (hX.sin.size) ?_
            intro v6 w6 hown6 hg6 hat6
            obtain ⟨a6, c6, rfl⟩ := own_slice hown6
            have HZ0 := Lib.hid (hX.push_pr (x := t) (v6 := .slice a6 (P.pr.length + 1) c6) hown6 hg6 hat6)
            have hBx := cel_own hX.box hX.own.pr (by decide) hg6
            clear hown6 hg6 hat6
            refine ⟨trivial, ?_⟩
            refine hx_take (i := 6) (oi := _) (v := .pointer (some ⟨gp, 0, none⟩)) rfl rfl hns (by kernel_rfl) (by kernel_rfl) hQ (by kernel_rfl) (fun _ _ => by kernel_rfl) trivial ?_
            refine hx_store (i := 7) (oi := _) (w6.setCell ⟨gp, 0, none⟩ (.slice a6 (P.pr.length + 1) c6)) rfl rfl (by kernel_rfl) (by kernel_rfl) (st_pr rfl (by kernel_rfl) (by kernel_rfl) _ hBx rfl) trivial ?_
            refine wpAnyH_done (by kernel_rfl) ?_ _
            clear hns hQ
            simp only [List.set_cons_zero, List.set_cons_succ]
            have hZ := HZ0.out
            clear hX hBx hKB I5 i5 HN4 HZ0 HB1
            obtain ⟨jz, hrz⟩ := hZ.rd
            have HMU := Lib.hid (rmust_any [46] hrz)
            have HXN : Hid (X = polS (⟨{ P with pr := P.pr ++ [t] }, fq, fb⟩ : PSt) (mustS [46] q4)) := HXS.out
            have HLT : Hid (leftS (mustS [46] q4) < leftS (.ok r)) := HLS.out
            have HROOM : Hid (RoomS (⟨{ P with pr := P.pr ++ [t] }, fq, fb⟩ : PSt).p (mustS [46] q4)) := HRS.out.less HLT.out (by simp) (by simp) (by simp) (by simp) (by simp)
            clear hrz HXS HLS
            go_wp2_with fail
            refine HMU.out.mono ?_
            rintro e wz ⟨rfl, hr9, hk9⟩
            have hZ9 := hZ.only hr9 hk9
            clear HMU hZ hr9 hk9
            go_wp2_with fail
            go_roundg (leftS (mustS [46] q4))
            case measure => exact HLT.out
            case rel => exact ⟨(⟨{ P with pr := P.pr ++ [t] }, fq, fb⟩ : PSt), _, rfl, rfl, rfl, HXN, (by rw [← hn.out]; exact ⟨_, _, _, _, _, _, _, _, _, _, hZ9⟩), HROOM⟩
      | false =>
        have HMX : Hid (Calls Tryz.prog 49 #[.pointer (some ⟨g, 0, none⟩), .string ⟨#[112, 114, 105, 110, 99, 105, 112, 97, 108]⟩] wr fun e w' => e = .returned (.bool false) ∧ (∃ j, Rdr w' g lv TL n (.ok r) j) ∧ OnlyG g wr w') := rmaybe_no hr0 hw1
        clear hr0
        go_wp2_with fail
        refine HMX.out.mono ?_
        rintro e wA2 ⟨rfl, hrm, hkm⟩
        replace hX := hX.only hrm hkm
        clear HMX hrm hkm
        obtain ⟨j1, hr1⟩ := hX.rd
        cases hw2 : isT wPred r with
        | true =>
          have HMX : Hid (Calls Tryz.prog 49 #[.pointer (some ⟨g, 0, none⟩), .string ⟨#[112, 114, 101, 100]⟩] wA2 fun e w' => e = .returned (.bool true) ∧ (∃ j, Rdr w' g lv TL n (.ok (r.drop 1)) j) ∧ OnlyG g wA2 w') := rmaybe_yes hr1 hw2
          clear hr1
          go_wp2_with fail
          refine HMX.out.mono ?_
          rintro e wB1 ⟨rfl, hrm, hkm⟩
          replace hX := hX.only hrm hkm
          clear HMX hrm hkm
          have hp : stmtX ⟨P, fq, fb⟩ r = (⟨{ P with pd := P.pd ++ [(nextV principalB (.ok (r.drop 1)), ((numX (mustS [47] (nextS principalB (.ok (r.drop 1))))).1 : Int))] }, fq, fb⟩, mustS [46] (numX (mustS [47] (nextS principalB (.ok (r.drop 1))))).2) := by unfold stmtX; rw [partX, if_neg (by rw [hw1]; decide), if_pos hw2]
          rw [hp] at HXS HLS
          obtain ⟨j0, hr0⟩ := hX.rd
          have HN4 := Lib.hid (rnext_any 1 principalB (fun t W ht => rmay_pred t W ht) HF.out hr0)
          obtain ⟨t, ht⟩ : ∃ x, Hid (x = nextV principalB (.ok (r.drop 1))) := ⟨_, rfl⟩
          obtain ⟨q3, hq3⟩ : ∃ x, Hid (x = nextS principalB (.ok (r.drop 1))) := ⟨_, rfl⟩
          obtain ⟨q4, hq4⟩ : ∃ x, Hid (x = mustS [47] q3) := ⟨_, rfl⟩
          obtain ⟨⟨N, q5⟩, hq5⟩ : ∃ x, Hid (x = numX q4) := ⟨_, rfl⟩
          rw [← ht.out, ← hq3.out] at HN4
          rw [← ht.out, ← hq3.out, ← hq4.out, ← hq5.out] at HXS
          rw [← hq3.out, ← hq4.out, ← hq5.out] at HLS
          simp only at HXS HLS
          clear hp ht hq3 hw1 hw2 hr0
          go_wp2_with fail
          refine HN4.out.mono ?_
          rintro e wd ⟨rfl, hr4, hk4⟩
          have hXd := hX.only hr4 hk4
          have hSa : Since wd (wd.alloc (.cells #[.string ⟨t.toArray⟩, .int .i64 0] 36)) := (Since.refl _).alloc _
          have hXe := hXd.next hSa
          have hB0 : Cel (wd.alloc (.cells #[.string ⟨t.toArray⟩, .int .i64 0] 36)) wd.heap.size #[.string ⟨t.toArray⟩, .int .i64 0] 36 := heap_alloc_new _ _
          have HLO0 := hXd.sin.size
          have HNE0 : ∀ b, c4.ownBlock = some b → ¬ b = wd.heap.size := fun b hb e => by have := (hXd.own.pd.lt b hb).2; omega
          clear HN4 hX hr4 hk4 hXd hSa
          go_upto_region 13 with (fail)
          obtain ⟨hb, hhb⟩ : ∃ x, Hid (x = wd.heap.size) := ⟨_, rfl⟩
          simp only [← hhb.out]
          rw [← hhb.out] at hB0 HLO0 HNE0
          have HLO := Lib.hid HLO0
          have HNE := Lib.hid HNE0
          clear hhb HLO0 HNE0
          generalize (wd.alloc (.cells #[.string ⟨t.toArray⟩, .int .i64 0] 36)) = we at *
          have hHg : Hid (¬ hb = g) := by obtain ⟨j, hr⟩ := hXe.rd; exact cel_cel_ne hB0 hr.cel (by decide)
          have hHp : Hid (hb ≠ gp) := cel_cel_ne hB0 hXe.box (by decide)
          obtain ⟨je, hre⟩ := hXe.rd
          have HMX := Lib.hid (rmust_any [47] hre)
          rw [← hq4.out] at HMX
          clear hre hq4
          go_wp2_with fail
          refine HMX.out.mono ?_
          rintro e wf ⟨rfl, hrf, hkf⟩
          have hXf := hXe.only hrf hkf
          have hBf := hkf.cel hB0 hHg.out
          obtain ⟨jf, hrf⟩ := hrf
          have HNU := Lib.hid (rnumber_any HF.out hrf)
          rw [← hq5.out] at HNU
          simp only at HNU
          clear HMX hXe hB0 hrf hkf hq5
          go_wp2_with fail
          refine HNU.out.mono ?_
          rintro e wg ⟨rfl, hrg, hkg⟩
          have hXg := hXf.only hrg hkg
          have hBg := hkg.cel hBf hHg.out
          have y1 : wg.cell? ⟨hb, 1, none⟩ = some (.int .i64 0) := hBg.cell 1
          have z1 : wg.frozen? ⟨hb, 1, none⟩ = false := hBg.free 1
          have l1 := hBg.lt
          have hBh : Cel (wg.setCell ⟨hb, 1, none⟩ (.int .i64 (N : Int))) hb #[.string ⟨t.toArray⟩, .int .i64 (N : Int)] 36 := hBg.set rfl
          have hZB : Keep (fun b => b = hb) wg (wg.setCell ⟨hb, 1, none⟩ (.int .i64 (N : Int))) := Keep.of_grown (grown_setCell wg hb 1 _) fun b hb => by injection hb with hb; exact hb.symm
          have hX : PX w3 (wg.setCell ⟨hb, 1, none⟩ (.int .i64 (N : Int))) g gp lv TL n q5 P c3 c4 c5 c6 c7 c8 c9 C U G := hXg.asideD hZB hBg hHg.out hHp.out HLO.out HNE.out
          clear HNU hXf hBf hrg hkg hXg hBg hZB
          go_upto_region 15 with (fail)
          clear y1 z1 l1
          generalize (wg.setCell ⟨hb, 1, none⟩ (.int .i64 (N : Int))) = wh at *
          obtain ⟨va, vc, rfl⟩ := own_slice hX.own.pd
          obtain ⟨i5, hi5, hz0, hz1, hz2⟩ := info_parts info_pd
          have I5 := Lib.hid (And.intro hi5 (And.intro hz0 (And.intro hz1 hz2)))
          clear hi5 hz0 hz1 hz2
          have HB1 : Hid (P.pd.length + 1 ≤ 65537) := by show _ ≤ _; have := HRS.out.2.1; have h0 : 0 < leftS (.ok r) := Nat.succ_pos _; omega
          have k1 : wh.cell? ⟨gp, 1, none⟩ = some (.slice va P.pd.length vc) := hX.box.cell 1
          have m0 : wh.cell? ⟨hb, 0, none⟩ = some (.string ⟨t.toArray⟩) := hBh.cell 0
          have m1 : wh.cell? ⟨hb, 1, none⟩ = some (.int .i64 (N : Int)) := hBh.cell 1
          have hSk : Since wh (wh.alloc (.cells #[.string ⟨t.toArray⟩, .int .i64 (N : Int)] 36)) := (Since.refl _).alloc _
          have hXk := hX.next hSk
          have hKB : Cel (wh.alloc (.cells #[.string ⟨t.toArray⟩, .int .i64 (N : Int)] 36)) wh.heap.size #[.string ⟨t.toArray⟩, .int .i64 (N : Int)] 36 := heap_alloc_new _ _
          clear hSk hX hBh
          have HXK := Lib.hid hXk
          clear hXk
          go_wp2_with (at_builtin; refine wpList_append_own _ rfl (.tmp 67) (.tmp 69) 24 rfl w3.heap.size 36 i5 (.agg #[.string ByteArray.empty, .int .i64 0]) 2 24 Tryz.underlying24 I5.out.1 I5.out.2.1 I5.out.2.2.1 I5.out.2.2.2 rfl (by decide) _ P.pd.length (P.pd.flatMap prdL) rfl HXK.out.own.pd ⟨wh.heap.size, 0, none⟩ 1 1 (prdL (t, (N : Int))) rfl rfl ?c0 ?c1 ?c2 ?c3 ?c4 ?_)
          case c0 => exact at_new0 wh #[.string ⟨t.toArray⟩, .int .i64 (N : Int)] 36
          case c1 => simp [prdL, Value.oneCell']
          case c2 => have := HB1.out; unfold maxLen; omega
          case c3 => have := HB1.out; omega
          case c4 => exact HXK.out.sin.size
          intro v6 w6 hown6 hg6 hat6
          obtain ⟨a6, c6, rfl⟩ := own_slice hown6
          have hat7 : (Value.slice a6 (P.pd.length + 1) c6).ownBlock = (Value.slice va P.pd.length vc).ownBlock ∨ (Value.slice a6 (P.pd.length + 1) c6).ownBlock = some (wh.alloc (.cells #[.string ⟨t.toArray⟩, .int .i64 (N : Int)] 36)).heap.size ∨ True := .inr (.inr trivial)
          have hZ0 := HXK.out.push_pdX (x := (t, (N : Int))) (v6 := .slice a6 (P.pd.length + 1) c6) hown6 hg6
          have hBx := cel_own HXK.out.box HXK.out.own.pd (by decide) hg6
          have HZ0 := Lib.hid hZ0
          have x1 : w6.cell? ⟨gp, 1, none⟩ = some (.slice va P.pd.length vc) := hBx.cell 1
          have z6 : w6.frozen? ⟨gp, 1, none⟩ = false := hBx.free 1
          have l6 := hBx.lt
          clear hown6 hg6 hat6 hat7 HXK hBx hKB hZ0 I5 i5 k1 m0 m1 HB1
          go_upto_region 24 with (fail)
          have hZ := HZ0.out
          clear HZ0 x1 z6 l6
          obtain ⟨jz, hrz⟩ := hZ.rd
          have HMU := Lib.hid (rmust_any [46] hrz)
          have HXN : Hid (X = polS (⟨{ P with pd := P.pd ++ [(t, (N : Int))] }, fq, fb⟩ : PSt) (mustS [46] q5)) := HXS.out
          have HLT : Hid (leftS (mustS [46] q5) < leftS (.ok r)) := HLS.out
          have HROOM : Hid (RoomS (⟨{ P with pd := P.pd ++ [(t, (N : Int))] }, fq, fb⟩ : PSt).p (mustS [46] q5)) := HRS.out.less HLT.out (by simp) (by simp) (by simp) (by simp) (by simp)
          clear hrz HXS HLS
          go_wp2_with fail
          refine HMU.out.mono ?_
          rintro e wz ⟨rfl, hr9, hk9⟩
          have hZ9 := hZ.only hr9 hk9
          clear HMU hZ hr9 hk9
          go_wp2_with fail
          go_roundg (leftS (mustS [46] q5))
          case measure => exact HLT.out
          case rel => exact ⟨(⟨{ P with pd := P.pd ++ [(t, (N : Int))] }, fq, fb⟩ : PSt), _, rfl, rfl, rfl, HXN, (by rw [← hn.out]; exact ⟨_, _, _, _, _, _, _, _, _, _, hZ9⟩), HROOM⟩
        | false =>
          have HMX : Hid (Calls Tryz.prog 49 #[.pointer (some ⟨g, 0, none⟩), .string ⟨#[112, 114, 101, 100]⟩] wA2 fun e w' => e = .returned (.bool false) ∧ (∃ j, Rdr w' g lv TL n (.ok r) j) ∧ OnlyG g wA2 w') := rmaybe_no hr1 hw2
          clear hr1
          go_wp2_with fail
          refine HMX.out.mono ?_
          rintro e wB2 ⟨rfl, hrm, hkm⟩
          replace hX := hX.only hrm hkm
          clear HMX hrm hkm
          obtain ⟨j2, hr2⟩ := hX.rd
          cases hw3 : isT wClear r with
          | true =>
            have HMX : Hid (Calls Tryz.prog 49 #[.pointer (some ⟨g, 0, none⟩), .string ⟨#[99, 108, 101, 97, 114]⟩] wB2 fun e w' => e = .returned (.bool true) ∧ (∃ j, Rdr w' g lv TL n (.ok (r.drop 1)) j) ∧ OnlyG g wB2 w') := rmaybe_yes hr2 hw3
            clear hr2
            go_wp2_with fail
            refine HMX.out.mono ?_
            rintro e wc ⟨rfl, hrm, hkm⟩
            replace hX := hX.only hrm hkm
            clear HMX hrm hkm
            have hp : stmtX ⟨P, fq, fb⟩ r = (⟨{ P with cl := P.cl ++ [(clearX (.ok (r.drop 1))).1] }, fq, fb⟩, mustS [46] (clearX (.ok (r.drop 1))).2) := by unfold stmtX; rw [partX, if_neg (by rw [hw1]; decide), if_neg (by rw [hw2]; decide), if_pos hw3]
            rw [hp] at HXS HLS
            obtain ⟨⟨⟨x0, x1⟩, q4⟩, hc4⟩ : ∃ x, Hid (x = clearX (.ok (r.drop 1))) := ⟨_, rfl⟩
            have HN4 : Hid (∀ W, (∃ j, Rdr W g lv TL n (.ok (r.drop 1)) j) → Calls Tryz.prog 53 #[.pointer (some ⟨g, 0, none⟩)] W fun e w' => ∃ v, e = .returned (.agg #[.string ⟨x0.toArray⟩, v]) ∧ w'.ownsRow W.heap.size 9 1 v x1.length (x1.flatMap txtL) ∧ (∃ j, Rdr w' g lv TL n q4 j) ∧ OnlyG g W w') := fun W h => by
              obtain ⟨j, h⟩ := h
              have hh := rclear10_any HF.out h
              rw [← hc4.out] at hh
              exact hh
            rw [← hc4.out] at HXS HLS
            simp only at HXS HLS
            obtain ⟨va, vc, rfl⟩ := own_slice hX.own.cl.row
            obtain ⟨i5, hi5, hz0, hz1, hz2⟩ := info_parts info_cl
            have I5 := Lib.hid (And.intro hi5 (And.intro hz0 (And.intro hz1 hz2)))
            clear hi5 hz0 hz1 hz2
            have HB1 : Hid (C.length + 1 ≤ 65537) := by show _ ≤ _; have h1 := congrArg List.length hX.own.eC; rw [List.length_map] at h1; have := HRS.out.2.2.1; have h0 : 0 < leftS (.ok r) := Nat.succ_pos _; omega
            clear hp hc4 hw1 hw2 hw3
            go_upto_region 17 with (fail)
            have hSd : Since wc wc.drew := (Since.refl _).drew
            replace hX := hX.next hSd
            clear hSd
            refine hx_begin (S := fun _ => True) (by kernel_rfl) trivial (by kernel_rfl) (fun _ _ _ _ _ h => h) (fun hns hQ => ?_)
            refine hx_take (i := 0) (oi := _) (v := .pointer (some ⟨gp, 2, none⟩)) rfl rfl hns (by kernel_rfl) (by kernel_rfl) hQ (by kernel_rfl) (fun _ _ => by kernel_rfl) trivial ?_
            refine hx_take (i := 2) (oi := _) (v := .pointer (some ⟨g, 0, none⟩)) rfl rfl hns (by kernel_rfl) (by kernel_rfl) hQ (by kernel_rfl) (fun _ _ => by kernel_rfl) trivial ?_
            refine hx_two_vc (i := 1) (j := 3) (.slice va C.length vc) (wc.drew) 53 #[.pointer (some ⟨g, 0, none⟩)] rfl rfl (by kernel_rfl) (by kernel_rfl) (by kernel_rfl) rfl (ld_one rfl (by kernel_rfl) (by kernel_rfl) wc.drew ((hX.box).cell 2)) trivial rfl (by kernel_rfl) (HN4.out _ hX.rd) ?_ ?_
            · refine hx_call (i := 3) (oi := _) 53 #[.pointer (some ⟨g, 0, none⟩)] rfl rfl (by kernel_rfl) (by kernel_rfl) (by kernel_rfl) (HN4.out _ hX.rd) ?_
              rintro e wx51 ⟨u, rfl, hu, hr4, hk4⟩
              have hX0 := hX
              obtain ⟨ua, uc, rfl⟩ := own_slice hu
              replace hX := hX.only hr4 hk4
              clear hr4 hk4
              refine ⟨_, rfl, trivial, ?_⟩
              refine hx_make (i := 4) (oi := _) (.slice (some ⟨wx51.heap.size, 0, none⟩) 1 1) (wx51.alloc (.cells #[.string ⟨x0.toArray⟩, .slice ua x1.length uc] 38)) rfl rfl (by kernel_rfl) (by kernel_rfl) (by kernel_rfl) trivial ?_
              have hSk : Since wx51 (wx51.alloc (.cells #[.string ⟨x0.toArray⟩, .slice ua x1.length uc] 38)) := (Since.refl _).alloc _
              replace hX := hX.next hSk
              replace hu := own_since hu hSk
              clear hSk
              have hKB : Cel (wx51.alloc (.cells #[.string ⟨x0.toArray⟩, .slice ua x1.length uc] 38)) wx51.heap.size #[.string ⟨x0.toArray⟩, .slice ua x1.length uc] 38 := heap_alloc_new _ _
              refine hx_append (i := 5) (oi := _) (.tmp 76) (.tmp 79) 25 w3.heap.size 38 i5 (.agg #[.string ByteArray.empty, .slice none 0 0]) 2 40 (.slice va C.length vc) C.length _ _ (some ⟨wx51.heap.size, 0, none⟩) 1 1 (#[.string ⟨x0.toArray⟩, .slice ua x1.length uc] : Array Value).toList rfl rfl (by kernel_rfl) (by kernel_rfl) rfl Tryz.underlying25 I5.out.1 I5.out.2.1 I5.out.2.2.1 I5.out.2.2.2 rfl (by decide) (by kernel_rfl) hX.own.cl.row (by kernel_rfl) (reads_celR hKB (K := 2) rfl) (by simp [Value.oneCell']) (by have := HB1.out; unfold maxLen; omega) (by have := HB1.out; omega) (hX.sin.size) ?_
              intro v6 w6 hown6 hg6 hat6
              obtain ⟨a6, c6, rfl⟩ := own_slice hown6
              have HZ0 := Lib.hid (hX.push_cl (x := (x0, x1)) (v6 := .slice a6 (C.length + 1) c6) hX0 hu hown6 hg6 hat6)
              have hBx := cel_own hX.box hX.own.cl.row (by decide) hg6
              clear hown6 hg6 hat6 hX0 hu
              refine ⟨trivial, ?_⟩
              refine hx_take (i := 6) (oi := _) (v := .pointer (some ⟨gp, 2, none⟩)) rfl rfl hns (by kernel_rfl) (by kernel_rfl) hQ (by kernel_rfl) (fun _ _ => by kernel_rfl) trivial ?_
              refine hx_store (i := 7) (oi := _) (w6.setCell ⟨gp, 2, none⟩ (.slice a6 (C.length + 1) c6)) rfl rfl (by kernel_rfl) (by kernel_rfl) (st_cl rfl (by kernel_rfl) (by kernel_rfl) _ hBx rfl) trivial ?_
              refine wpAnyH_done (by kernel_rfl) ?_ _
              clear hns hQ
              simp only [List.set_cons_zero, List.set_cons_succ]
              have hZ := HZ0.out
              clear hX hBx hKB I5 i5 HN4 HZ0 HB1
              obtain ⟨jz, hrz⟩ := hZ.rd
              have HMU := Lib.hid (rmust_any [46] hrz)
              have HXN : Hid (X = polS (⟨{ P with cl := P.cl ++ [(x0, x1)] }, fq, fb⟩ : PSt) (mustS [46] q4)) := HXS.out
              have HLT : Hid (leftS (mustS [46] q4) < leftS (.ok r)) := HLS.out
              have HROOM : Hid (RoomS (⟨{ P with cl := P.cl ++ [(x0, x1)] }, fq, fb⟩ : PSt).p (mustS [46] q4)) := HRS.out.less HLT.out (by simp) (by simp) (by simp) (by simp) (by simp)
              clear hrz HXS HLS
              go_wp2_with fail
              refine HMU.out.mono ?_
              rintro e wz ⟨rfl, hr9, hk9⟩
              have hZ9 := hZ.only hr9 hk9
              clear HMU hZ hr9 hk9
              go_wp2_with fail
              go_roundg (leftS (mustS [46] q4))
              case measure => exact HLT.out
              case rel => exact ⟨(⟨{ P with cl := P.cl ++ [(x0, x1)] }, fq, fb⟩ : PSt), _, rfl, rfl, rfl, HXN, (by rw [← hn.out]; exact ⟨_, _, _, _, _, _, _, _, _, _, hZ9⟩), HROOM⟩
            · rintro e wx51 ⟨u, rfl, hu, hr4, hk4⟩
              have hX0 := hX
              obtain ⟨ua, uc, rfl⟩ := own_slice hu
              replace hX := hX.only hr4 hk4
              clear hr4 hk4
              refine ⟨_, rfl, trivial, ?_⟩
              refine hx_two_vv (i := 1) (j := 4) (.slice va C.length vc) (wx51) (.slice (some ⟨wx51.heap.size, 0, none⟩) 1 1) ((wx51.alloc (.cells #[.string ⟨x0.toArray⟩, .slice ua x1.length uc] 38))) rfl rfl (by kernel_rfl) (by kernel_rfl) (by kernel_rfl) rfl (ld_one rfl (by kernel_rfl) (by kernel_rfl) wx51 ((hX.box).cell 2)) trivial rfl (by kernel_rfl) trivial ?_ ?_
              · refine hx_make (i := 4) (oi := _) (.slice (some ⟨wx51.heap.size, 0, none⟩) 1 1) (wx51.alloc (.cells #[.string ⟨x0.toArray⟩, .slice ua x1.length uc] 38)) rfl rfl (by kernel_rfl) (by kernel_rfl) (by kernel_rfl) trivial ?_
                have hSk : Since wx51 (wx51.alloc (.cells #[.string ⟨x0.toArray⟩, .slice ua x1.length uc] 38)) := (Since.refl _).alloc _
                replace hX := hX.next hSk
                replace hu := own_since hu hSk
                clear hSk
                have hKB : Cel (wx51.alloc (.cells #[.string ⟨x0.toArray⟩, .slice ua x1.length uc] 38)) wx51.heap.size #[.string ⟨x0.toArray⟩, .slice ua x1.length uc] 38 := heap_alloc_new _ _
                refine hx_append (i := 5) (oi := _) (.tmp 76) (.tmp 79) 25 w3.heap.size 38 i5 (.agg #[.string ByteArray.empty, .slice none 0 0]) 2 40 (.slice va C.length vc) C.length _ _ (some ⟨wx51.heap.size, 0, none⟩) 1 1 (#[.string ⟨x0.toArray⟩, .slice ua x1.length uc] : Array Value).toList rfl rfl (by kernel_rfl) (by kernel_rfl) rfl Tryz.underlying25 I5.out.1 I5.out.2.1 I5.out.2.2.1 I5.out.2.2.2 rfl (by decide) (by kernel_rfl) hX.own.cl.row (by kernel_rfl) (reads_celR hKB (K := 2) rfl) (by simp [Value.oneCell']) (by have := HB1.out; unfold maxLen; omega) (by have := HB1.out; omega) (hX.sin.size) ?_
                intro v6 w6 hown6 hg6 hat6
                obtain ⟨a6, c6, rfl⟩ := own_slice hown6
                have HZ0 := Lib.hid (hX.push_cl (x := (x0, x1)) (v6 := .slice a6 (C.length + 1) c6) hX0 hu hown6 hg6 hat6)
                have hBx := cel_own hX.box hX.own.cl.row (by decide) hg6
                clear hown6 hg6 hat6 hX0 hu
                refine ⟨trivial, ?_⟩
                refine hx_take (i := 6) (oi := _) (v := .pointer (some ⟨gp, 2, none⟩)) rfl rfl hns (by kernel_rfl) (by kernel_rfl) hQ (by kernel_rfl) (fun _ _ => by kernel_rfl) trivial ?_
                refine hx_store (i := 7) (oi := _) (w6.setCell ⟨gp, 2, none⟩ (.slice a6 (C.length + 1) c6)) rfl rfl (by kernel_rfl) (by kernel_rfl) (st_cl rfl (by kernel_rfl) (by kernel_rfl) _ hBx rfl) trivial ?_
                refine wpAnyH_done (by kernel_rfl) ?_ _
                clear hns hQ
                simp only [List.set_cons_zero, List.set_cons_succ]
                have hZ := HZ0.out
                clear hX hBx hKB I5 i5 HN4 HZ0 HB1
                obtain ⟨jz, hrz⟩ := hZ.rd
                have HMU := Lib.hid (rmust_any [46] hrz)
                have HXN : Hid (X = polS (⟨{ P with cl := P.cl ++ [(x0, x1)] }, fq, fb⟩ : PSt) (mustS [46] q4)) := HXS.out
                have HLT : Hid (leftS (mustS [46] q4) < leftS (.ok r)) := HLS.out
                have HROOM : Hid (RoomS (⟨{ P with cl := P.cl ++ [(x0, x1)] }, fq, fb⟩ : PSt).p (mustS [46] q4)) := HRS.out.less HLT.out (by simp) (by simp) (by simp) (by simp) (by simp)
                clear hrz HXS HLS
                go_wp2_with fail
                refine HMU.out.mono ?_
                rintro e wz ⟨rfl, hr9, hk9⟩
                have hZ9 := hZ.only hr9 hk9
                clear HMU hZ hr9 hk9
                go_wp2_with fail
                go_roundg (leftS (mustS [46] q4))
                case measure => exact HLT.out
                case rel => exact ⟨(⟨{ P with cl := P.cl ++ [(x0, x1)] }, fq, fb⟩ : PSt), _, rfl, rfl, rfl, HXN, (by rw [← hn.out]; exact ⟨_, _, _, _, _, _, _, _, _, _, hZ9⟩), HROOM⟩
              · have hSk : Since wx51 (wx51.alloc (.cells #[.string ⟨x0.toArray⟩, .slice ua x1.length uc] 38)) := (Since.refl _).alloc _
                replace hX := hX.next hSk
                replace hu := own_since hu hSk
                clear hSk
                have hKB : Cel (wx51.alloc (.cells #[.string ⟨x0.toArray⟩, .slice ua x1.length uc] 38)) wx51.heap.size #[.string ⟨x0.toArray⟩, .slice ua x1.length uc] 38 := heap_alloc_new _ _
                refine hx_make (i := 1) (oi := _) (.slice va C.length vc) ((wx51.alloc (.cells #[.string ⟨x0.toArray⟩, .slice ua x1.length uc] 38))) rfl rfl (by kernel_rfl) (by kernel_rfl) (ld_one rfl (by kernel_rfl) (by kernel_rfl) (wx51.alloc (.cells #[.string ⟨x0.toArray⟩, .slice ua x1.length uc] 38)) ((hX.box).cell 2)) trivial ?_
                refine hx_append (i := 5) (oi := _) (.tmp 76) (.tmp 79) 25 w3.heap.size 38 i5 (.agg #[.string ByteArray.empty, .slice none 0 0]) 2 40 (.slice va C.length vc) C.length _ _ (some ⟨wx51.heap.size, 0, none⟩) 1 1 (#[.string ⟨x0.toArray⟩, .slice ua x1.length uc] : Array Value).toList rfl rfl (by kernel_rfl) (by kernel_rfl) rfl Tryz.underlying25 I5.out.1 I5.out.2.1 I5.out.2.2.1 I5.out.2.2.2 rfl (by decide) (by kernel_rfl) hX.own.cl.row (by kernel_rfl) (reads_celR hKB (K := 2) rfl) (by simp [Value.oneCell']) (by have := HB1.out; unfold maxLen; omega) (by have := HB1.out; omega) (hX.sin.size) ?_
                intro v6 w6 hown6 hg6 hat6
                obtain ⟨a6, c6, rfl⟩ := own_slice hown6
                have HZ0 := Lib.hid (hX.push_cl (x := (x0, x1)) (v6 := .slice a6 (C.length + 1) c6) hX0 hu hown6 hg6 hat6)
                have hBx := cel_own hX.box hX.own.cl.row (by decide) hg6
                clear hown6 hg6 hat6 hX0 hu
                refine ⟨trivial, ?_⟩
                refine hx_take (i := 6) (oi := _) (v := .pointer (some ⟨gp, 2, none⟩)) rfl rfl hns (by kernel_rfl) (by kernel_rfl) hQ (by kernel_rfl) (fun _ _ => by kernel_rfl) trivial ?_
                refine hx_store (i := 7) (oi := _) (w6.setCell ⟨gp, 2, none⟩ (.slice a6 (C.length + 1) c6)) rfl rfl (by kernel_rfl) (by kernel_rfl) (st_cl rfl (by kernel_rfl) (by kernel_rfl) _ hBx rfl) trivial ?_
                refine wpAnyH_done (by kernel_rfl) ?_ _
                clear hns hQ
                simp only [List.set_cons_zero, List.set_cons_succ]
                have hZ := HZ0.out
                clear hX hBx hKB I5 i5 HN4 HZ0 HB1
                obtain ⟨jz, hrz⟩ := hZ.rd
                have HMU := Lib.hid (rmust_any [46] hrz)
                have HXN : Hid (X = polS (⟨{ P with cl := P.cl ++ [(x0, x1)] }, fq, fb⟩ : PSt) (mustS [46] q4)) := HXS.out
                have HLT : Hid (leftS (mustS [46] q4) < leftS (.ok r)) := HLS.out
                have HROOM : Hid (RoomS (⟨{ P with cl := P.cl ++ [(x0, x1)] }, fq, fb⟩ : PSt).p (mustS [46] q4)) := HRS.out.less HLT.out (by simp) (by simp) (by simp) (by simp) (by simp)
                clear hrz HXS HLS
                go_wp2_with fail
                refine HMU.out.mono ?_
                rintro e wz ⟨rfl, hr9, hk9⟩
                have hZ9 := hZ.only hr9 hk9
                clear HMU hZ hr9 hk9
                go_wp2_with fail
                go_roundg (leftS (mustS [46] q4))
                case measure => exact HLT.out
                case rel => exact ⟨(⟨{ P with cl := P.cl ++ [(x0, x1)] }, fq, fb⟩ : PSt), _, rfl, rfl, rfl, HXN, (by rw [← hn.out]; exact ⟨_, _, _, _, _, _, _, _, _, _, hZ9⟩), HROOM⟩
          | false =>
            have HMX : Hid (Calls Tryz.prog 49 #[.pointer (some ⟨g, 0, none⟩), .string ⟨#[99, 108, 101, 97, 114]⟩] wB2 fun e w' => e = .returned (.bool false) ∧ (∃ j, Rdr w' g lv TL n (.ok r) j) ∧ OnlyG g wB2 w') := rmaybe_no hr2 hw3
            clear hr2
            go_wp2_with fail
            refine HMX.out.mono ?_
            rintro e wC2 ⟨rfl, hrm, hkm⟩
            replace hX := hX.only hrm hkm
            clear HMX hrm hkm
            obtain ⟨j3, hr3⟩ := hX.rd
            cases hw4 : isT wQuota r with
            | true =>
              have HMX : Hid (Calls Tryz.prog 49 #[.pointer (some ⟨g, 0, none⟩), .string ⟨#[113, 117, 111, 116, 97]⟩] wC2 fun e w' => e = .returned (.bool true) ∧ (∃ j, Rdr w' g lv TL n (.ok (r.drop 1)) j) ∧ OnlyG g wC2 w') := rmaybe_yes hr3 hw4
              clear hr3
              go_wp2_with fail
              refine HMX.out.mono ?_
              rintro e wD1 ⟨rfl, hrm, hkm⟩
              replace hX := hX.only hrm hkm
              clear HMX hrm hkm
              have hp : stmtX ⟨P, fq, fb⟩ r = (⟨{ P with qu := ((numX (onceS fq (.ok (r.drop 1)))).1 : Int) }, true, fb⟩, mustS [46] (numX (onceS fq (.ok (r.drop 1)))).2) := by unfold stmtX; rw [partX, if_neg (by rw [hw1]; decide), if_neg (by rw [hw2]; decide), if_neg (by rw [hw3]; decide), if_pos hw4]
              rw [hp] at HXS HLS
              obtain ⟨j0, hr0⟩ := hX.rd
              have hlt : ∀ r', (Except.ok (r.drop 1) : RS) = .ok r' → r'.length < TL.length := fun r' e => by
                injection e with e
                rw [← e]
                have := HRL.out
                have h0 : 0 < r.length := HR0.out
                rw [List.length_drop]; omega
              have HON := Lib.hid (ronce_any fq hr0 hlt)
              obtain ⟨q4, hq4⟩ : ∃ x, Hid (x = onceS fq (.ok (r.drop 1))) := ⟨_, rfl⟩
              obtain ⟨⟨N, q5⟩, hq5⟩ : ∃ x, Hid (x = numX q4) := ⟨_, rfl⟩
              rw [← hq4.out] at HON
              rw [← hq4.out, ← hq5.out] at HXS HLS
              simp only at HXS HLS
              clear hp hq4 hw1 hw2 hw3 hw4 hr0 hlt
              go_wp2_with fail
              refine HON.out.mono ?_
              rintro e wd ⟨rfl, hr4, hk4⟩
              have hXd := hX.only hr4 hk4
              obtain ⟨jd, hr4⟩ := hr4
              have HNU := Lib.hid (rnumber_any HF.out hr4)
              rw [← hq5.out] at HNU
              simp only at HNU
              clear HON hX hr4 hk4 hq5
              go_wp2_with fail
              refine HNU.out.mono ?_
              rintro e we ⟨rfl, hre, hke⟩
              have hXe := hXd.only hre hke
              have y1 : we.cell? ⟨gp, 3, none⟩ = some c6 := hXe.box.cell 3
              obtain ⟨oq, hoq⟩ : ∃ x, c6 = .int .i64 x := ⟨_, hXe.own.qu⟩
              rw [hoq] at y1
              have z1 : we.frozen? ⟨gp, 3, none⟩ = false := hXe.box.free 3
              have l1 := hXe.box.lt
              have HZ0 := Lib.hid (hXe.num_qu (N : Int))
              clear HNU hXd hre hke hXe hoq
              go_upto_region 24 with (fail)
              have hZ := HZ0.out
              clear HZ0 y1 z1 l1
              obtain ⟨jz, hrz⟩ := hZ.rd
              have HMU := Lib.hid (rmust_any [46] hrz)
              have HXN : Hid (X = polS (⟨{ P with qu := (N : Int) }, true, fb⟩ : PSt) (mustS [46] q5)) := HXS.out
              have HLT : Hid (leftS (mustS [46] q5) < leftS (.ok r)) := HLS.out
              have HROOM : Hid (RoomS (⟨{ P with qu := (N : Int) }, true, fb⟩ : PSt).p (mustS [46] q5)) := HRS.out.less HLT.out (by simp) (by simp) (by simp) (by simp) (by simp)
              clear hrz HXS HLS
              go_wp2_with fail
              refine HMU.out.mono ?_
              rintro e wz ⟨rfl, hr9, hk9⟩
              have hZ9 := hZ.only hr9 hk9
              clear HMU hZ hr9 hk9
              go_wp2_with fail
              go_roundg (leftS (mustS [46] q5))
              case measure => exact HLT.out
              case rel => exact ⟨(⟨{ P with qu := (N : Int) }, true, fb⟩ : PSt), _, rfl, rfl, rfl, HXN, (by rw [← hn.out]; exact ⟨_, _, _, _, _, _, _, _, _, _, hZ9⟩), HROOM⟩
            | false =>
              have HMX : Hid (Calls Tryz.prog 49 #[.pointer (some ⟨g, 0, none⟩), .string ⟨#[113, 117, 111, 116, 97]⟩] wC2 fun e w' => e = .returned (.bool false) ∧ (∃ j, Rdr w' g lv TL n (.ok r) j) ∧ OnlyG g wC2 w') := rmaybe_no hr3 hw4
              clear hr3
              go_wp2_with fail
              refine HMX.out.mono ?_
              rintro e wD2 ⟨rfl, hrm, hkm⟩
              replace hX := hX.only hrm hkm
              clear HMX hrm hkm
              obtain ⟨j4, hr4⟩ := hX.rd
              cases hw5 : isT wBudget r with
              | true =>
                have HMX : Hid (Calls Tryz.prog 49 #[.pointer (some ⟨g, 0, none⟩), .string ⟨#[98, 117, 100, 103, 101, 116]⟩] wD2 fun e w' => e = .returned (.bool true) ∧ (∃ j, Rdr w' g lv TL n (.ok (r.drop 1)) j) ∧ OnlyG g wD2 w') := rmaybe_yes hr4 hw5
                clear hr4
                go_wp2_with fail
                refine HMX.out.mono ?_
                rintro e wE1 ⟨rfl, hrm, hkm⟩
                replace hX := hX.only hrm hkm
                clear HMX hrm hkm
                have hp : stmtX ⟨P, fq, fb⟩ r = (⟨{ P with bu := ((numX (onceS fb (.ok (r.drop 1)))).1 : Int) }, fq, true⟩, mustS [46] (numX (onceS fb (.ok (r.drop 1)))).2) := by unfold stmtX; rw [partX, if_neg (by rw [hw1]; decide), if_neg (by rw [hw2]; decide), if_neg (by rw [hw3]; decide), if_neg (by rw [hw4]; decide), if_pos hw5]
                rw [hp] at HXS HLS
                obtain ⟨j0, hr0⟩ := hX.rd
                have hlt : ∀ r', (Except.ok (r.drop 1) : RS) = .ok r' → r'.length < TL.length := fun r' e => by
                  injection e with e
                  rw [← e]
                  have := HRL.out
                  have h0 : 0 < r.length := HR0.out
                  rw [List.length_drop]; omega
                have HON := Lib.hid (ronce_any fb hr0 hlt)
                obtain ⟨q4, hq4⟩ : ∃ x, Hid (x = onceS fb (.ok (r.drop 1))) := ⟨_, rfl⟩
                obtain ⟨⟨N, q5⟩, hq5⟩ : ∃ x, Hid (x = numX q4) := ⟨_, rfl⟩
                rw [← hq4.out] at HON
                rw [← hq4.out, ← hq5.out] at HXS HLS
                simp only at HXS HLS
                clear hp hq4 hw1 hw2 hw3 hw4 hw5 hr0 hlt
                go_wp2_with fail
                refine HON.out.mono ?_
                rintro e wd ⟨rfl, hr4, hk4⟩
                have hXd := hX.only hr4 hk4
                obtain ⟨jd, hr4⟩ := hr4
                have HNU := Lib.hid (rnumber_any HF.out hr4)
                rw [← hq5.out] at HNU
                simp only at HNU
                clear HON hX hr4 hk4 hq5
                go_wp2_with fail
                refine HNU.out.mono ?_
                rintro e we ⟨rfl, hre, hke⟩
                have hXe := hXd.only hre hke
                have y1 : we.cell? ⟨gp, 4, none⟩ = some c7 := hXe.box.cell 4
                obtain ⟨oq, hoq⟩ : ∃ x, c7 = .int .i64 x := ⟨_, hXe.own.bu⟩
                rw [hoq] at y1
                have z1 : we.frozen? ⟨gp, 4, none⟩ = false := hXe.box.free 4
                have l1 := hXe.box.lt
                have HZ0 := Lib.hid (hXe.num_bu (N : Int))
                clear HNU hXd hre hke hXe hoq
                go_upto_region 24 with (fail)
                have hZ := HZ0.out
                clear HZ0 y1 z1 l1
                obtain ⟨jz, hrz⟩ := hZ.rd
                have HMU := Lib.hid (rmust_any [46] hrz)
                have HXN : Hid (X = polS (⟨{ P with bu := (N : Int) }, fq, true⟩ : PSt) (mustS [46] q5)) := HXS.out
                have HLT : Hid (leftS (mustS [46] q5) < leftS (.ok r)) := HLS.out
                have HROOM : Hid (RoomS (⟨{ P with bu := (N : Int) }, fq, true⟩ : PSt).p (mustS [46] q5)) := HRS.out.less HLT.out (by simp) (by simp) (by simp) (by simp) (by simp)
                clear hrz HXS HLS
                go_wp2_with fail
                refine HMU.out.mono ?_
                rintro e wz ⟨rfl, hr9, hk9⟩
                have hZ9 := hZ.only hr9 hk9
                clear HMU hZ hr9 hk9
                go_wp2_with fail
                go_roundg (leftS (mustS [46] q5))
                case measure => exact HLT.out
                case rel => exact ⟨(⟨{ P with bu := (N : Int) }, fq, true⟩ : PSt), _, rfl, rfl, rfl, HXN, (by rw [← hn.out]; exact ⟨_, _, _, _, _, _, _, _, _, _, hZ9⟩), HROOM⟩
              | false =>
                have HMX : Hid (Calls Tryz.prog 49 #[.pointer (some ⟨g, 0, none⟩), .string ⟨#[98, 117, 100, 103, 101, 116]⟩] wD2 fun e w' => e = .returned (.bool false) ∧ (∃ j, Rdr w' g lv TL n (.ok r) j) ∧ OnlyG g wD2 w') := rmaybe_no hr4 hw5
                clear hr4
                go_wp2_with fail
                refine HMX.out.mono ?_
                rintro e wE2 ⟨rfl, hrm, hkm⟩
                replace hX := hX.only hrm hkm
                clear HMX hrm hkm
                have hp : stmtX ⟨P, fq, fb⟩ r = (⟨(saysX P (.ok r)).1, fq, fb⟩, mustS [46] (saysX P (.ok r)).2) := by unfold stmtX; rw [partX, if_neg (by rw [hw1]; decide), if_neg (by rw [hw2]; decide), if_neg (by rw [hw3]; decide), if_neg (by rw [hw4]; decide), if_neg (by rw [hw5]; decide)]
                rw [hp] at HXS HLS
                have HSY := Lib.hid (rsays_any HF.out hX (by have := HRS.out.2.2.2.1; have h0 : 0 < leftS (.ok r) := Nat.succ_pos _; omega) (by have := HRS.out.2.2.2.2; have h0 : 0 < leftS (.ok r) := Nat.succ_pos _; omega))
                have hlen := len_says P (.ok r)
                obtain ⟨⟨P2, q5⟩, hq5⟩ : ∃ x, Hid (x = saysX P (.ok r)) := ⟨_, rfl⟩
                rw [← hq5.out] at HSY HXS HLS hlen
                simp only at HSY HXS HLS hlen
                obtain ⟨n1, n2, n3, n4, n5⟩ := hlen
                have HN5 := Lib.hid (And.intro n1 (And.intro n2 (And.intro n3 (And.intro n4 n5))))
                clear hp hq5 hw1 hw2 hw3 hw4 hw5 n1 n2 n3 n4 n5 hX
                go_wp2_with fail
                refine HSY.out.mono ?_
                rintro e we ⟨rfl, c3, c4, c5, c6, c7, c8, c9, C, U, G, hZ⟩
                clear HSY
                obtain ⟨jz, hrz⟩ := hZ.rd
                have HMU := Lib.hid (rmust_any [46] hrz)
                have HXN : Hid (X = polS (⟨P2, fq, fb⟩ : PSt) (mustS [46] q5)) := HXS.out
                have HLT : Hid (leftS (mustS [46] q5) < leftS (.ok r)) := HLS.out
                have HROOM : Hid (RoomS (⟨P2, fq, fb⟩ : PSt).p (mustS [46] q5)) := HRS.out.less HLT.out HN5.out.1 HN5.out.2.1 HN5.out.2.2.1 HN5.out.2.2.2.1 HN5.out.2.2.2.2
                clear hrz HXS HLS
                go_wp2_with fail
                refine HMU.out.mono ?_
                rintro e wz ⟨rfl, hr9, hk9⟩
                have hZ9 := hZ.only hr9 hk9
                clear HMU hZ hr9 hk9
                go_wp2_with fail
                go_roundg (leftS (mustS [46] q5))
                case measure => exact HLT.out
                case rel => exact ⟨(⟨P2, fq, fb⟩ : PSt), _, rfl, rfl, rfl, HXN, (by rw [← hn.out]; exact ⟨_, _, _, _, _, _, _, _, _, _, hZ9⟩), HROOM⟩
end Go.Proofs.YtnfjjckbgnieeaaGreatDoor
