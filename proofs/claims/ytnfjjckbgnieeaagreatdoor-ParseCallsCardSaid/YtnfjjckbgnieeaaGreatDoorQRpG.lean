/- The reference's reader of policies: the policy that grows; says. The reference's reader of policies: says. -/
import Derived.Test.YtnfjjckbgnieeaaGreatDoorQRpA
namespace Go.Proofs.YtnfjjckbgnieeaaGreatDoor
open Go.RowKit

theorem powp_pr {w5 w6 : World} {D gp : Nat} {cs : Array Value} {c3 c4 c5 c6 c7 c8 c9 : Value} {P : Pol} {C : List (Clr × Value)} {U : List (Rul × Value)} {G : List (Grn × Value)} (o : POwn w5 D c3 c4 c5 c6 c7 c8 c9 P C U G) (hb : Cel w6 gp cs 29) {x : Txt} {v6 : Value} (hown : w6.ownsRow D 9 1 v6 (P.pr.length + 1) ((P.pr.flatMap txtL) ++ txtL x)) (hg : w5.grownBy w6 c3.ownBlock) (hat : v6.ownBlock = c3.ownBlock ∨ v6.ownBlock = some w5.heap.size) :
    POwn (w6.setCell ⟨gp, 0, none⟩ v6) D v6 c4 c5 c6 c7 c8 c9 { P with pr := P.pr ++ [x] } C U G := by
  have key : ∀ {e : TypeId} {K m : Nat} {v : Value} {xs : List Value}, w6.ownsRow D e K v m xs → e ≠ 29 → (w6.setCell ⟨gp, 0, none⟩ v6).ownsRow D e K v m xs := fun hr he => own_setCell hr hb he
  have oth : ∀ {e : TypeId} {K m : Nat} {v : Value} {xs : List Value}, w5.ownsRow D e K v m xs → e ≠ 9 → e ≠ 29 → (w6.setCell ⟨gp, 0, none⟩ v6).ownsRow D e K v m xs := fun hr he hp => key (own_other hr o.pr he hg) hp
  have haC : ∀ p ∈ C, apartV p.2 v6 := by
    intro p hp
    unfold apartV
    rcases hat with hat | hat
    · rw [hat]; exact o.aC p hp
    · cases hb : p.2.ownBlock with
      | none => exact .inl rfl
      | some q =>
        refine .inr fun e => ?_
        rw [hat] at e
        injection e with e
        have := ((o.cl.ins p hp).lt q hb).2
        omega
  exact ⟨by simpa [List.length_append, List.flatMap_append] using key hown (by decide), oth o.pd (by decide) (by decide), ⟨oth o.cl.row (by decide) (by decide), fun p hp => key ((o.cl.ins p hp).kept hg (o.aC p hp)) (by decide), o.cl.apart⟩, ⟨oth o.ru.row (by decide) (by decide), fun p hp => oth (o.ru.ins p hp) (by decide) (by decide), o.ru.apart⟩, ⟨oth o.gr.row (by decide) (by decide), fun p hp => oth (o.gr.ins p hp) (by decide) (by decide), o.gr.apart⟩, o.eC, o.eU, o.eG, o.qu, o.bu, haC, o.aU⟩
theorem powp_pd {w5 w6 : World} {D gp : Nat} {cs : Array Value} {c3 c4 c5 c6 c7 c8 c9 : Value} {P : Pol} {C : List (Clr × Value)} {U : List (Rul × Value)} {G : List (Grn × Value)} (o : POwn w5 D c3 c4 c5 c6 c7 c8 c9 P C U G) (hb : Cel w6 gp cs 29) {x : (Txt × Int)} {v6 : Value} (hown : w6.ownsRow D 36 2 v6 (P.pd.length + 1) ((P.pd.flatMap prdL) ++ prdL x)) (hg : w5.grownBy w6 c4.ownBlock) (_hat : v6.ownBlock = c4.ownBlock ∨ v6.ownBlock = some w5.heap.size) :
    POwn (w6.setCell ⟨gp, 1, none⟩ v6) D c3 v6 c5 c6 c7 c8 c9 { P with pd := P.pd ++ [x] } C U G := by
  have key : ∀ {e : TypeId} {K m : Nat} {v : Value} {xs : List Value}, w6.ownsRow D e K v m xs → e ≠ 29 → (w6.setCell ⟨gp, 1, none⟩ v6).ownsRow D e K v m xs := fun hr he => own_setCell hr hb he
  have oth : ∀ {e : TypeId} {K m : Nat} {v : Value} {xs : List Value}, w5.ownsRow D e K v m xs → e ≠ 36 → e ≠ 29 → (w6.setCell ⟨gp, 1, none⟩ v6).ownsRow D e K v m xs := fun hr he hp => key (own_other hr o.pd he hg) hp
  exact ⟨oth o.pr (by decide) (by decide), by simpa [List.length_append, List.flatMap_append] using key hown (by decide), ⟨oth o.cl.row (by decide) (by decide), fun p hp => oth (o.cl.ins p hp) (by decide) (by decide), o.cl.apart⟩, ⟨oth o.ru.row (by decide) (by decide), fun p hp => oth (o.ru.ins p hp) (by decide) (by decide), o.ru.apart⟩, ⟨oth o.gr.row (by decide) (by decide), fun p hp => oth (o.gr.ins p hp) (by decide) (by decide), o.gr.apart⟩, o.eC, o.eU, o.eG, o.qu, o.bu, o.aC, o.aU⟩
theorem powp_cl {w5 w6 : World} {D gp : Nat} {cs : Array Value} {c3 c4 c5 c6 c7 c8 c9 : Value} {P : Pol} {C : List (Clr × Value)} {U : List (Rul × Value)} {G : List (Grn × Value)} (o : POwn w5 D c3 c4 c5 c6 c7 c8 c9 P C U G) (hb : Cel w6 gp cs 29) {x : Clr} {v6 : Value} {u : Value} {W0 : World} (h0 : POwn W0 D c3 c4 c5 c6 c7 c8 c9 P C U G) (hlo : D ≤ W0.heap.size) (hu : w5.ownsRow W0.heap.size 9 1 u (x.2.length) (x.2.flatMap txtL)) (hown : w6.ownsRow D 38 2 v6 (C.length + 1) ((C.flatMap fun p => clrC p.1 p.2) ++ clrC x u)) (hg : w5.grownBy w6 c5.ownBlock) (_hat : v6.ownBlock = c5.ownBlock ∨ v6.ownBlock = some w5.heap.size) :
    POwn (w6.setCell ⟨gp, 2, none⟩ v6) D c3 c4 v6 c6 c7 c8 c9 { P with cl := P.cl ++ [x] } (C ++ [(x, u)]) U G := by
  have key : ∀ {e : TypeId} {K m : Nat} {v : Value} {xs : List Value}, w6.ownsRow D e K v m xs → e ≠ 29 → (w6.setCell ⟨gp, 2, none⟩ v6).ownsRow D e K v m xs := fun hr he => own_setCell hr hb he
  have oth : ∀ {e : TypeId} {K m : Nat} {v : Value} {xs : List Value}, w5.ownsRow D e K v m xs → e ≠ 38 → e ≠ 29 → (w6.setCell ⟨gp, 2, none⟩ v6).ownsRow D e K v m xs := fun hr he hp => key (own_other hr o.cl.row he hg) hp
  have hn : Nest w6 D 38 2 clrC 9 1 _ _ v6 (C ++ [(x, u)]) := Nest.push (W0 := W0) o.cl (fun p hp b hb => ((h0.cl.ins p hp).lt b hb).2) hu hlo hown rfl hg (by decide)
  have hlen : (C ++ [(x, u)]).map Prod.fst = P.cl ++ [x] := by rw [List.map_append, o.eC]; rfl
  have haC : ∀ p ∈ C ++ [(x, u)], apartV p.2 c3 := by
    intro p hp
    rcases List.mem_append.1 hp with hp | hp
    · exact o.aC p hp
    · have e : p = (x, u) := by simpa using hp
      subst e
      show u.ownBlock = none ∨ u.ownBlock ≠ c3.ownBlock
      cases hb : u.ownBlock with
      | none => exact .inl rfl
      | some q =>
        refine .inr fun e => ?_
        have l1 := (hu.lt q hb).1
        have l2 := (h0.pr.lt q e.symm).2
        omega
  exact ⟨oth o.pr (by decide) (by decide), oth o.pd (by decide) (by decide), ⟨key hn.row (by decide), fun p hp => key (hn.ins p hp) (by decide), hn.apart⟩, ⟨oth o.ru.row (by decide) (by decide), fun p hp => oth (o.ru.ins p hp) (by decide) (by decide), o.ru.apart⟩, ⟨oth o.gr.row (by decide) (by decide), fun p hp => oth (o.gr.ins p hp) (by decide) (by decide), o.gr.apart⟩, hlen, o.eU, o.eG, o.qu, o.bu, haC, o.aU⟩
theorem powp_ru {w5 w6 : World} {D gp : Nat} {cs : Array Value} {c3 c4 c5 c6 c7 c8 c9 : Value} {P : Pol} {C : List (Clr × Value)} {U : List (Rul × Value)} {G : List (Grn × Value)} (o : POwn w5 D c3 c4 c5 c6 c7 c8 c9 P C U G) (hb : Cel w6 gp cs 29) {x : Rul} {v6 : Value} {u : Value} {W0 : World} (h0 : POwn W0 D c3 c4 c5 c6 c7 c8 c9 P C U G) (hlo : D ≤ W0.heap.size) (hu : w5.ownsRow W0.heap.size 44 11 u (x.2.length) (x.2.flatMap atmL)) (hown : w6.ownsRow D 47 12 v6 (U.length + 1) ((U.flatMap fun p => rulC p.1 p.2) ++ rulC x u)) (hg : w5.grownBy w6 c8.ownBlock) (_hat : v6.ownBlock = c8.ownBlock ∨ v6.ownBlock = some w5.heap.size) :
    POwn (w6.setCell ⟨gp, 5, none⟩ v6) D c3 c4 c5 c6 c7 v6 c9 { P with ru := P.ru ++ [x] } C (U ++ [(x, u)]) G := by
  have key : ∀ {e : TypeId} {K m : Nat} {v : Value} {xs : List Value}, w6.ownsRow D e K v m xs → e ≠ 29 → (w6.setCell ⟨gp, 5, none⟩ v6).ownsRow D e K v m xs := fun hr he => own_setCell hr hb he
  have oth : ∀ {e : TypeId} {K m : Nat} {v : Value} {xs : List Value}, w5.ownsRow D e K v m xs → e ≠ 47 → e ≠ 29 → (w6.setCell ⟨gp, 5, none⟩ v6).ownsRow D e K v m xs := fun hr he hp => key (own_other hr o.ru.row he hg) hp
  have hn : Nest w6 D 47 12 rulC 44 11 _ _ v6 (U ++ [(x, u)]) := Nest.push (W0 := W0) o.ru (fun p hp b hb => ((h0.ru.ins p hp).lt b hb).2) hu hlo hown rfl hg (by decide)
  have hlen : (U ++ [(x, u)]).map Prod.fst = P.ru ++ [x] := by rw [List.map_append, o.eU]; rfl
  have haU : ∀ p ∈ U ++ [(x, u)], ∀ q ∈ G, apartV p.2 q.2 := by
    intro p hp q hq
    rcases List.mem_append.1 hp with hh | hh
    · exact o.aU p hh q hq
    · have e0 : p = (x, u) := by simpa using hh
      have e1 : p.2 = u := by rw [e0]
      unfold apartV
      cases hb : p.2.ownBlock with
      | none => exact .inl rfl
      | some z =>
        refine .inr fun e => ?_
        have l1 := (hu.lt z (by rw [← e1]; exact hb)).1
        have l2 := ((h0.gr.ins q hq).lt z e.symm).2
        omega
  exact ⟨oth o.pr (by decide) (by decide), oth o.pd (by decide) (by decide), ⟨oth o.cl.row (by decide) (by decide), fun p hp => oth (o.cl.ins p hp) (by decide) (by decide), o.cl.apart⟩, ⟨key hn.row (by decide), fun p hp => key (hn.ins p hp) (by decide), hn.apart⟩, ⟨oth o.gr.row (by decide) (by decide), fun p hp => oth (o.gr.ins p hp) (by decide) (by decide), o.gr.apart⟩, o.eC, hlen, o.eG, o.qu, o.bu, o.aC, haU⟩
theorem powp_gr {w5 w6 : World} {D gp : Nat} {cs : Array Value} {c3 c4 c5 c6 c7 c8 c9 : Value} {P : Pol} {C : List (Clr × Value)} {U : List (Rul × Value)} {G : List (Grn × Value)} (o : POwn w5 D c3 c4 c5 c6 c7 c8 c9 P C U G) (hb : Cel w6 gp cs 29) {x : Grn} {v6 : Value} {u : Value} {W0 : World} (h0 : POwn W0 D c3 c4 c5 c6 c7 c8 c9 P C U G) (hlo : D ≤ W0.heap.size) (hu : w5.ownsRow W0.heap.size 44 11 u (x.2.2.length) (x.2.2.flatMap atmL)) (hown : w6.ownsRow D 49 13 v6 (G.length + 1) ((G.flatMap fun p => grnC p.1 p.2) ++ grnC x u)) (hg : w5.grownBy w6 c9.ownBlock) (_hat : v6.ownBlock = c9.ownBlock ∨ v6.ownBlock = some w5.heap.size) :
    POwn (w6.setCell ⟨gp, 6, none⟩ v6) D c3 c4 c5 c6 c7 c8 v6 { P with gr := P.gr ++ [x] } C U (G ++ [(x, u)]) := by
  have key : ∀ {e : TypeId} {K m : Nat} {v : Value} {xs : List Value}, w6.ownsRow D e K v m xs → e ≠ 29 → (w6.setCell ⟨gp, 6, none⟩ v6).ownsRow D e K v m xs := fun hr he => own_setCell hr hb he
  have oth : ∀ {e : TypeId} {K m : Nat} {v : Value} {xs : List Value}, w5.ownsRow D e K v m xs → e ≠ 49 → e ≠ 29 → (w6.setCell ⟨gp, 6, none⟩ v6).ownsRow D e K v m xs := fun hr he hp => key (own_other hr o.gr.row he hg) hp
  have hn : Nest w6 D 49 13 grnC 44 11 _ _ v6 (G ++ [(x, u)]) := Nest.push (W0 := W0) o.gr (fun p hp b hb => ((h0.gr.ins p hp).lt b hb).2) hu hlo hown rfl hg (by decide)
  have hlen : (G ++ [(x, u)]).map Prod.fst = P.gr ++ [x] := by rw [List.map_append, o.eG]; rfl
  have haU : ∀ p ∈ U, ∀ q ∈ G ++ [(x, u)], apartV p.2 q.2 := by
    intro p hp q hq
    rcases List.mem_append.1 hq with hh | hh
    · exact o.aU p hp q hh
    · have e0 : q = (x, u) := by simpa using hh
      have e1 : q.2 = u := by rw [e0]
      unfold apartV
      cases hb : p.2.ownBlock with
      | none => exact .inl rfl
      | some z =>
        refine .inr fun e => ?_
        have l1 := (hu.lt z (by rw [← e1]; exact e.symm)).1
        have l2 := ((h0.ru.ins p hp).lt z hb).2
        omega
  exact ⟨oth o.pr (by decide) (by decide), oth o.pd (by decide) (by decide), ⟨oth o.cl.row (by decide) (by decide), fun p hp => oth (o.cl.ins p hp) (by decide) (by decide), o.cl.apart⟩, ⟨oth o.ru.row (by decide) (by decide), fun p hp => oth (o.ru.ins p hp) (by decide) (by decide), o.ru.apart⟩, ⟨key hn.row (by decide), fun p hp => key (hn.ins p hp) (by decide), hn.apart⟩, o.eC, o.eU, hlen, o.qu, o.bu, o.aC, haU⟩
theorem powp_qu {w6 : World} {D gp : Nat} {cs : Array Value} {c3 c4 c5 c6 c7 c8 c9 : Value} {P : Pol} {C : List (Clr × Value)} {U : List (Rul × Value)} {G : List (Grn × Value)} (o : POwn w6 D c3 c4 c5 c6 c7 c8 c9 P C U G) (hb : Cel w6 gp cs 29) (v : Int) : POwn (w6.setCell ⟨gp, 3, none⟩ (.int .i64 v)) D c3 c4 c5 (.int .i64 v) c7 c8 c9 { P with qu := v } C U G := by
  have key : ∀ {e : TypeId} {K m : Nat} {v : Value} {xs : List Value} {u : Value}, w6.ownsRow D e K v m xs → e ≠ 29 → (w6.setCell ⟨gp, 3, none⟩ u).ownsRow D e K v m xs := fun hr he => own_setCell hr hb he
  exact ⟨key o.pr (by decide), key o.pd (by decide), ⟨key o.cl.row (by decide), fun p hp => key (o.cl.ins p hp) (by decide), o.cl.apart⟩, ⟨key o.ru.row (by decide), fun p hp => key (o.ru.ins p hp) (by decide), o.ru.apart⟩, ⟨key o.gr.row (by decide), fun p hp => key (o.gr.ins p hp) (by decide), o.gr.apart⟩, o.eC, o.eU, o.eG, rfl, o.bu, o.aC, o.aU⟩
theorem powp_bu {w6 : World} {D gp : Nat} {cs : Array Value} {c3 c4 c5 c6 c7 c8 c9 : Value} {P : Pol} {C : List (Clr × Value)} {U : List (Rul × Value)} {G : List (Grn × Value)} (o : POwn w6 D c3 c4 c5 c6 c7 c8 c9 P C U G) (hb : Cel w6 gp cs 29) (v : Int) : POwn (w6.setCell ⟨gp, 4, none⟩ (.int .i64 v)) D c3 c4 c5 c6 (.int .i64 v) c8 c9 { P with bu := v } C U G := by
  have key : ∀ {e : TypeId} {K m : Nat} {v : Value} {xs : List Value} {u : Value}, w6.ownsRow D e K v m xs → e ≠ 29 → (w6.setCell ⟨gp, 4, none⟩ u).ownsRow D e K v m xs := fun hr he => own_setCell hr hb he
  exact ⟨key o.pr (by decide), key o.pd (by decide), ⟨key o.cl.row (by decide), fun p hp => key (o.cl.ins p hp) (by decide), o.cl.apart⟩, ⟨key o.ru.row (by decide), fun p hp => key (o.ru.ins p hp) (by decide), o.ru.apart⟩, ⟨key o.gr.row (by decide), fun p hp => key (o.gr.ins p hp) (by decide), o.gr.apart⟩, o.eC, o.eU, o.eG, o.qu, rfl, o.aC, o.aU⟩
theorem POwn.onlyR {W W' : World} {g D : Nat} {cs : Array Value} {c3 c4 c5 c6 c7 c8 c9 : Value} {P : Pol} {C : List (Clr × Value)} {U : List (Rul × Value)} {G : List (Grn × Value)} (h : POwn W D c3 c4 c5 c6 c7 c8 c9 P C U G) (hc : Cel W g cs 95) (hk : OnlyG g W W') : POwn W' D c3 c4 c5 c6 c7 c8 c9 P C U G := by
  have key : ∀ {e : TypeId} {K m : Nat} {v : Value} {xs : List Value}, W.ownsRow D e K v m xs → e ≠ 95 → W'.ownsRow D e K v m xs := fun hr he => hk.own hr (fun b hb e => cel_own_ne hc hr he (by rw [hb, e]))
  exact ⟨key h.pr (by decide), key h.pd (by decide), ⟨key h.cl.row (by decide), fun p hp => key (h.cl.ins p hp) (by decide), h.cl.apart⟩, ⟨key h.ru.row (by decide), fun p hp => key (h.ru.ins p hp) (by decide), h.ru.apart⟩, ⟨key h.gr.row (by decide), fun p hp => key (h.gr.ins p hp) (by decide), h.gr.apart⟩, h.eC, h.eU, h.eG, h.qu, h.bu, h.aC, h.aU⟩
/-- The reader and the policy that it fills, within a call that began in w0. -/
structure PX (w0 W : World) (g gp : Nat) (lv : Value) (L : List Tk) (n : Nat) (q : RS) (P : Pol) (c3 c4 c5 c6 c7 c8 c9 : Value) (C : List (Clr × Value)) (U : List (Rul × Value)) (G : List (Grn × Value)) : Prop where
  rd : ∃ j, Rdr W g lv L n q j
  box : Cel W gp #[c3, c4, c5, c6, c7, c8, c9] 29
  own : POwn W w0.heap.size c3 c4 c5 c6 c7 c8 c9 P C U G
  sin : Since w0 W
  lo : w0.heap.size ≤ g ∧ w0.heap.size ≤ gp
section
variable {w0 W W' w5 w6 : World} {g gp : Nat} {lv : Value} {L : List Tk} {n : Nat} {q q' : RS} {P P' : Pol} {c3 c4 c5 c6 c7 c8 c9 d3 d4 d5 d6 d7 d8 d9 : Value} {C C' : List (Clr × Value)} {U U' : List (Rul × Value)} {G G' : List (Grn × Value)}
theorem PX.ne (h : PX w0 W g gp lv L n q P c3 c4 c5 c6 c7 c8 c9 C U G) : ¬ gp = g := by
  obtain ⟨j, hr⟩ := h.rd
  exact cel_cel_ne h.box hr.cel (by decide)
theorem PX.only (h : PX w0 W g gp lv L n q P c3 c4 c5 c6 c7 c8 c9 C U G) (hr : ∃ j, Rdr W' g lv L n q' j) (hk : OnlyG g W W') : PX w0 W' g gp lv L n q' P c3 c4 c5 c6 c7 c8 c9 C U G := by
  have hne := h.ne
  obtain ⟨j, h1⟩ := h.rd
  exact ⟨hr, hk.cel h.box hne, h.own.onlyR h1.cel hk, hk.since h.sin (fun x hx => by rw [hx]; exact h.lo.1), h.lo⟩
theorem PX.next (h : PX w0 W g gp lv L n q P c3 c4 c5 c6 c7 c8 c9 C U G) (hs : Since W W') : PX w0 W' g gp lv L n q P c3 c4 c5 c6 c7 c8 c9 C U G := by
  obtain ⟨j, h1⟩ := h.rd
  exact ⟨⟨j, h1.next hs⟩, h.box.next hs, h.own.next hs, h.sin.trans hs, h.lo⟩
/-- A row has grown, a cell of the policy is stored to. -/
theorem PX.put (h : PX w0 w5 g gp lv L n q P c3 c4 c5 c6 c7 c8 c9 C U G) {e : TypeId} {K m k : Nat} {v u : Value} {xs : List Value} (hr : w5.ownsRow w0.heap.size e K v m xs) (hg : w5.grownBy w6 v.ownBlock) (h1 : e ≠ 95) (h2 : 63 ≠ e) (h3 : e ≠ 29)
    (hs : (#[c3, c4, c5, c6, c7, c8, c9] : Array Value).setIfInBounds k u = #[d3, d4, d5, d6, d7, d8, d9]) (ho : Cel w6 gp #[c3, c4, c5, c6, c7, c8, c9] 29 → POwn (w6.setCell ⟨gp, k, none⟩ u) w0.heap.size d3 d4 d5 d6 d7 d8 d9 P' C' U' G') : PX w0 (w6.setCell ⟨gp, k, none⟩ u) g gp lv L n q P' d3 d4 d5 d6 d7 d8 d9 C' U' G' := by
  have hne := h.ne
  obtain ⟨j, hj⟩ := h.rd
  have hj6 := rdr_grow hj hr hg h1 h2
  have hb6 := cel_own h.box hr h3 hg
  have hz : Keep (fun b => b = gp) w6 (w6.setCell ⟨gp, k, none⟩ u) := Keep.of_grown (grown_setCell w6 gp k u) fun b hb => by injection hb with hb; exact hb.symm
  exact ⟨⟨j, rdr_x hj6 hne hb6 (by decide) hz⟩, hb6.set hs, ho hb6, hz.since ((Keep.of_grown (Z := fun b => w0.heap.size ≤ b) hg (fun b hb => (hr.lt b hb).1)).since h.sin (fun _ h => h)) (fun x hx => by rw [hx]; exact h.lo.2), h.lo⟩
theorem PX.push_pr (h : PX w0 w5 g gp lv L n q P c3 c4 c5 c6 c7 c8 c9 C U G) {x : Txt} {v6 : Value} (hown : w6.ownsRow w0.heap.size 9 1 v6 (P.pr.length + 1) ((P.pr.flatMap txtL) ++ txtL x)) (hg : w5.grownBy w6 c3.ownBlock) (hat : v6.ownBlock = c3.ownBlock ∨ v6.ownBlock = some w5.heap.size) :
    PX w0 (w6.setCell ⟨gp, 0, none⟩ v6) g gp lv L n q { P with pr := P.pr ++ [x] } v6 c4 c5 c6 c7 c8 c9 C U G := h.put h.own.pr hg (by decide) (by decide) (by decide) rfl (fun hb => powp_pr h.own hb hown hg hat)
theorem PX.push_pd (h : PX w0 w5 g gp lv L n q P c3 c4 c5 c6 c7 c8 c9 C U G) {x : Txt × Int} {v6 : Value} (hown : w6.ownsRow w0.heap.size 36 2 v6 (P.pd.length + 1) ((P.pd.flatMap prdL) ++ prdL x)) (hg : w5.grownBy w6 c4.ownBlock) (hat : v6.ownBlock = c4.ownBlock ∨ v6.ownBlock = some w5.heap.size) :
    PX w0 (w6.setCell ⟨gp, 1, none⟩ v6) g gp lv L n q { P with pd := P.pd ++ [x] } c3 v6 c5 c6 c7 c8 c9 C U G := h.put h.own.pd hg (by decide) (by decide) (by decide) rfl (fun hb => powp_pd h.own hb hown hg hat)
theorem PX.push_cl (h : PX w0 w5 g gp lv L n q P c3 c4 c5 c6 c7 c8 c9 C U G) {x : Clr} {v6 u : Value} {W0 : World} {q0 : RS} (h0 : PX w0 W0 g gp lv L n q0 P c3 c4 c5 c6 c7 c8 c9 C U G) (hu : w5.ownsRow W0.heap.size 9 1 u (x.2.length) (x.2.flatMap txtL)) (hown : w6.ownsRow w0.heap.size 38 2 v6 (C.length + 1) ((C.flatMap fun p => clrC p.1 p.2) ++ clrC x u)) (hg : w5.grownBy w6 c5.ownBlock) (hat : v6.ownBlock = c5.ownBlock ∨ v6.ownBlock = some w5.heap.size) :
    PX w0 (w6.setCell ⟨gp, 2, none⟩ v6) g gp lv L n q { P with cl := P.cl ++ [x] } c3 c4 v6 c6 c7 c8 c9 (C ++ [(x, u)]) U G := h.put h.own.cl.row hg (by decide) (by decide) (by decide) rfl (fun hb => powp_cl h.own hb h0.own h0.sin.size hu hown hg hat)
theorem PX.push_ru (h : PX w0 w5 g gp lv L n q P c3 c4 c5 c6 c7 c8 c9 C U G) {x : Rul} {v6 u : Value} {W0 : World} {q0 : RS} (h0 : PX w0 W0 g gp lv L n q0 P c3 c4 c5 c6 c7 c8 c9 C U G) (hu : w5.ownsRow W0.heap.size 44 11 u (x.2.length) (x.2.flatMap atmL)) (hown : w6.ownsRow w0.heap.size 47 12 v6 (U.length + 1) ((U.flatMap fun p => rulC p.1 p.2) ++ rulC x u)) (hg : w5.grownBy w6 c8.ownBlock) (hat : v6.ownBlock = c8.ownBlock ∨ v6.ownBlock = some w5.heap.size) :
    PX w0 (w6.setCell ⟨gp, 5, none⟩ v6) g gp lv L n q { P with ru := P.ru ++ [x] } c3 c4 c5 c6 c7 v6 c9 C (U ++ [(x, u)]) G := h.put h.own.ru.row hg (by decide) (by decide) (by decide) rfl (fun hb => powp_ru h.own hb h0.own h0.sin.size hu hown hg hat)
theorem PX.push_gr (h : PX w0 w5 g gp lv L n q P c3 c4 c5 c6 c7 c8 c9 C U G) {x : Grn} {v6 u : Value} {W0 : World} {q0 : RS} (h0 : PX w0 W0 g gp lv L n q0 P c3 c4 c5 c6 c7 c8 c9 C U G) (hu : w5.ownsRow W0.heap.size 44 11 u (x.2.2.length) (x.2.2.flatMap atmL)) (hown : w6.ownsRow w0.heap.size 49 13 v6 (G.length + 1) ((G.flatMap fun p => grnC p.1 p.2) ++ grnC x u)) (hg : w5.grownBy w6 c9.ownBlock) (hat : v6.ownBlock = c9.ownBlock ∨ v6.ownBlock = some w5.heap.size) :
    PX w0 (w6.setCell ⟨gp, 6, none⟩ v6) g gp lv L n q { P with gr := P.gr ++ [x] } c3 c4 c5 c6 c7 c8 v6 C U (G ++ [(x, u)]) := h.put h.own.gr.row hg (by decide) (by decide) (by decide) rfl (fun hb => powp_gr h.own hb h0.own h0.sin.size hu hown hg hat)
theorem PX.num (h : PX w0 W g gp lv L n q P c3 c4 c5 c6 c7 c8 c9 C U G) {k : Nat} {u : Value} (hs : (#[c3, c4, c5, c6, c7, c8, c9] : Array Value).setIfInBounds k u = #[d3, d4, d5, d6, d7, d8, d9]) (ho : POwn (W.setCell ⟨gp, k, none⟩ u) w0.heap.size d3 d4 d5 d6 d7 d8 d9 P' C' U' G') : PX w0 (W.setCell ⟨gp, k, none⟩ u) g gp lv L n q P' d3 d4 d5 d6 d7 d8 d9 C' U' G' := by
  have hne := h.ne
  obtain ⟨j, hj⟩ := h.rd
  have hz : Keep (fun b => b = gp) W (W.setCell ⟨gp, k, none⟩ u) := Keep.of_grown (grown_setCell W gp k u) fun b hb => by injection hb with hb; exact hb.symm
  exact ⟨⟨j, rdr_x hj hne h.box (by decide) hz⟩, h.box.set hs, ho, hz.since h.sin (fun x hx => by rw [hx]; exact h.lo.2), h.lo⟩
theorem PX.num_qu (h : PX w0 W g gp lv L n q P c3 c4 c5 c6 c7 c8 c9 C U G) (v : Int) : PX w0 (W.setCell ⟨gp, 3, none⟩ (.int .i64 v)) g gp lv L n q { P with qu := v } c3 c4 c5 (.int .i64 v) c7 c8 c9 C U G := h.num rfl (powp_qu h.own h.box v)
theorem PX.num_bu (h : PX w0 W g gp lv L n q P c3 c4 c5 c6 c7 c8 c9 C U G) (v : Int) : PX w0 (W.setCell ⟨gp, 4, none⟩ (.int .i64 v)) g gp lv L n q { P with bu := v } c3 c4 c5 c6 (.int .i64 v) c8 c9 C U G := h.num rfl (powp_bu h.own h.box v)
end
/-- As PX, whatever the cells. -/
def PG (w0 W : World) (g gp : Nat) (lv : Value) (L : List Tk) (n : Nat) (q : RS) (P : Pol) : Prop := ∃ c3 c4 c5 c6 c7 c8 c9 C U G, PX w0 W g gp lv L n q P c3 c4 c5 c6 c7 c8 c9 C U G
end Go.Proofs.YtnfjjckbgnieeaaGreatDoor

namespace Go.Proofs.YtnfjjckbgnieeaaGreatDoor
open Go.RowKit

theorem addP_int {o : Oper} {x y : Operand} {ev : Operand → Value} {a b c : Int} (ho : o.op = .binOp .add 3 x y 3) (hx : ev x = .int .i64 a) (hy : ev y = .int .i64 b) (h : IntKind.i64.wrap (a + b) = c) (W : World) :
    (execOp ev o).run Tryz.prog W = .ok (.value (.int .i64 c)) W := by
  simp only [execOp, ho]
  go_simp
theorem eqT_is {o : Oper} {x y : Operand} {ev : Operand → Value} {s t : List UInt8} {b : Bool} (ho : o.op = .binOp .eql 9 x y 9) (hx : ev x = .string ⟨s.toArray⟩) (hy : ev y = .string ⟨t.toArray⟩) (h : (s == t) = b) (W : World) :
    (execOp ev o).run Tryz.prog W = .ok (.value (.bool b)) W := by
  rw [eql_txt ho hx hy W, h]
def setsV (cs : Array Value) : Nat → List Value → Array Value
  | _, [] => cs
  | k, v :: r => setsV (cs.setIfInBounds k v) (k + 1) r
theorem cel_setsV {W : World} {g : Nat} {cs ds : Array Value} {T : TypeId} (h : Cel W g cs T) : ∀ (vs : List Value) (k : Nat), setsV cs k vs = ds → Cel (W.setCells g k vs) g ds T := by
  intro vs
  induction vs generalizing W cs with
  | nil => intro k e; rw [← e]; exact h
  | cons v r ih => intro k e; exact ih (h.set rfl) (k + 1) e
/-- A box aside has changed. -/
theorem PX.aside {w0 W W' : World} {g gp hb : Nat} {lv : Value} {L : List Tk} {n : Nat} {q : RS} {P : Pol} {c3 c4 c5 c6 c7 c8 c9 : Value} {C : List (Clr × Value)} {U : List (Rul × Value)} {G : List (Grn × Value)} {cs : Array Value} {Ty : TypeId} (h : PX w0 W g gp lv L n q P c3 c4 c5 c6 c7 c8 c9 C U G) (hz : Keep (fun b => b = hb) W W') (hc : Cel W hb cs Ty) (hg : ¬ hb = g) (hp : hb ≠ gp) (hlo : w0.heap.size ≤ hb)
    (hne : ∀ b, c9.ownBlock = some b → ¬ b = hb) (e0 : 63 ≠ Ty) (e1 : 9 ≠ Ty) (e2 : 36 ≠ Ty) (e3 : 38 ≠ Ty) (e4 : 47 ≠ Ty) (e6 : 44 ≠ Ty) : PX w0 W' g gp lv L n q P c3 c4 c5 c6 c7 c8 c9 C U G := by
  obtain ⟨j, hj⟩ := h.rd
  have key : ∀ {e : TypeId} {K m : Nat} {v : Value} {xs : List Value}, W.ownsRow w0.heap.size e K v m xs → e ≠ Ty → W'.ownsRow w0.heap.size e K v m xs := fun hr he => hz.own hr (fun b hb e => cel_own_ne hc hr he (by rw [hb, e]))
  have o := h.own
  exact ⟨⟨j, rdr_x hj hg hc e0 hz⟩, hz.cel h.box (fun e => hp e.symm), ⟨key o.pr e1, key o.pd e2, ⟨key o.cl.row e3, fun p hp => key (o.cl.ins p hp) e1, o.cl.apart⟩, ⟨key o.ru.row e4, fun p hp => key (o.ru.ins p hp) e6, o.ru.apart⟩, ⟨hz.own o.gr.row hne, fun p hp => key (o.gr.ins p hp) e6, o.gr.apart⟩, o.eC, o.eU, o.eG, o.qu, o.bu, o.aC, o.aU⟩, hz.since h.sin (fun x hx => by rw [hx]; exact hlo), h.lo⟩
set_option maxHeartbeats 8000000 in
set_option maxRecDepth 100000 in
theorem rsays_any {w0 w : World} {g gp : Nat} {lv : Value} {L : List Tk} {n : Nat} {q : RS} {P : Pol} {c3 c4 c5 c6 c7 c8 c9 : Value} {C : List (Clr × Value)} {U : List (Rul × Value)} {G : List (Grn × Value)} (hf : ∀ x ∈ txtsK L, x.length ≤ 65536) (h : PX w0 w g gp lv L n q P c3 c4 c5 c6 c7 c8 c9 C U G) (hru : P.ru.length + 1 ≤ 70000) (hgr : P.gr.length + 1 ≤ 70000) :
    Calls Tryz.prog 55 #[.pointer (some ⟨g, 0, none⟩), .pointer (some ⟨gp, 0, none⟩)] w fun e w' => e = .returned (.tuple #[]) ∧ PG w0 w' g gp lv L n (saysX P q).2 (saysX P q).1 := by
  obtain ⟨X, hX⟩ : ∃ X, Hid (X = saysX P q) := ⟨_, rfl⟩
  rw [← hX.out]
  obtain ⟨K, hK⟩ : ∃ K : Ending → World → Prop, Hid (K = fun e w' => e = .returned (.tuple #[]) ∧ PG w0 w' g gp lv L n X.2 X.1) := ⟨_, rfl⟩
  have hgood : Hid (∀ P1 q1 w', X = (P1, q1) → PG w0 w' g gp lv L n q1 P1 → K (.returned (.tuple #[])) w') := fun P1 q1 w' e h => by rw [hK.out, e]; exact ⟨rfl, h⟩
  rw [← hK.out]
  unfold saysX at hX
  have HF := Lib.hid hf
  have HRM := Lib.hid (And.intro hru hgr)
  obtain ⟨i0, h0⟩ := h.rd
  have HN1 := Lib.hid (rnext_any 0 principalB (fun t W ht => rmay_princ t W ht) hf h0)
  obtain ⟨who, hwho⟩ : ∃ x, Hid (x = nextV principalB q) := ⟨_, rfl⟩
  obtain ⟨q1, hq1⟩ : ∃ x, Hid (x = nextS principalB q) := ⟨_, rfl⟩
  obtain ⟨q2, hq2⟩ : ∃ x, Hid (x = mustS wSays q1) := ⟨_, rfl⟩
  simp only at hX
  rw [← hwho.out, ← hq1.out] at HN1 hX
  rw [← hq2.out] at hX
  clear hK hf hru hgr h0 hwho hq1
  go_enter Tryz.func55, Tryz.ntmps55
  go_wp2_with fail
  refine HN1.out.mono ?_
  rintro e w2 ⟨rfl, hr2, hk2⟩
  have hX2 := h.only hr2 hk2
  obtain ⟨i2, hr2⟩ := hr2
  have HM1 := Lib.hid (rmust_any wSays hr2)
  rw [← hq2.out] at HM1
  clear h HN1 hr2 hk2 hq2
  go_wp2_with fail
  refine HM1.out.mono ?_
  rintro e w3 ⟨rfl, hr3, hk3⟩
  have hX3 := hX2.only hr3 hk3
  obtain ⟨i, hr3⟩ := hr3
  clear HM1 hX2 hk3
  obtain ⟨la, lc, hlv⟩ := (own_tkrow hr3.row).slice
  cases q2 with
  | error x =>
    obtain ⟨k0, e0⟩ := x
    have he : ¬ e0 = 0 := hr3.bad _ rfl
    have hE4 : At w3 g 4 #[.int .i64 e0] := At.one (hr3.cel.cell 4)
    have hsec : secS wCansay (.error (k0, e0)) = false := rfl
    clear hr3
    go_upto_region 2 with (fail)
    have hs0 : Since w3 w3.drew := (Since.refl _).drew
    refine hx_begin (S := fun W => Since w3 W) (by kernel_rfl) hs0 (by kernel_rfl) (fun _ _ _ _ _ h => h) (fun hns hQ => ?_)
    refine hx_take (i := 0) (oi := _) (v := .pointer (some ⟨g, 0, none⟩)) rfl rfl hns (by kernel_rfl) (by kernel_rfl) hQ (by kernel_rfl) (fun _ _ => by kernel_rfl) hs0 ?_
    refine hx_take (i := 1) (oi := _) (v := .pointer (some ⟨g, 0, none⟩)) rfl rfl hns (by kernel_rfl) (by kernel_rfl) hQ (by kernel_rfl) (fun _ _ => by kernel_rfl) hs0 ?_
    refine hx_take (i := 2) (oi := _) (v := .pointer (some ⟨g, 4, none⟩)) rfl rfl hns (by kernel_rfl) (by kernel_rfl) hQ (by kernel_rfl) (fun _ _ => by kernel_rfl) hs0 ?_
    refine hx_take (i := 3) (oi := _) (v := .int .i64 e0) rfl rfl hns (by kernel_rfl) (by kernel_rfl) hQ (by kernel_rfl) (fun W hW => ld_one rfl (by kernel_rfl) (by kernel_rfl) W (hE4.next hW 0 _ rfl)) hs0 ?_
    refine hx_take (i := 4) (oi := _) (v := .bool false) rfl rfl hns (by kernel_rfl) (by kernel_rfl) hQ (by kernel_rfl) (fun W _ => eqlE_no rfl (by kernel_rfl) (by kernel_rfl) he W) hs0 ?_
    refine hx_take (i := 5) (oi := _) (v := .bool false) rfl rfl hns (by kernel_rfl) (by kernel_rfl) hQ (by kernel_rfl) (fun _ _ => by kernel_rfl) hs0 ?_
    refine hx_off (i := 6) (oi := _) rfl rfl hns (by kernel_rfl) (by kernel_rfl) hQ (by kernel_rfl) hs0 ?_
    refine hx_off (i := 7) (oi := _) rfl rfl hns (by kernel_rfl) (by kernel_rfl) hQ (by kernel_rfl) hs0 ?_
    refine hx_off (i := 8) (oi := _) rfl rfl hns (by kernel_rfl) (by kernel_rfl) hQ (by kernel_rfl) hs0 ?_
    refine hx_off (i := 9) (oi := _) rfl rfl hns (by kernel_rfl) (by kernel_rfl) hQ (by kernel_rfl) hs0 ?_
    refine hx_off (i := 10) (oi := _) rfl rfl hns (by kernel_rfl) (by kernel_rfl) hQ (by kernel_rfl) hs0 ?_
    refine hx_off (i := 11) (oi := _) rfl rfl hns (by kernel_rfl) (by kernel_rfl) hQ (by kernel_rfl) hs0 ?_
    refine hx_off (i := 12) (oi := _) rfl rfl hns (by kernel_rfl) (by kernel_rfl) hQ (by kernel_rfl) hs0 ?_
    refine hx_off (i := 13) (oi := _) rfl rfl hns (by kernel_rfl) (by kernel_rfl) hQ (by kernel_rfl) hs0 ?_
    refine hx_off (i := 14) (oi := _) rfl rfl hns (by kernel_rfl) (by kernel_rfl) hQ (by kernel_rfl) hs0 ?_
    refine hx_off (i := 15) (oi := _) rfl rfl hns (by kernel_rfl) (by kernel_rfl) hQ (by kernel_rfl) hs0 ?_
    refine hx_off (i := 16) (oi := _) rfl rfl hns (by kernel_rfl) (by kernel_rfl) hQ (by kernel_rfl) hs0 ?_
    refine hx_take (i := 17) (oi := _) (v := .bool false) rfl rfl hns (by kernel_rfl) (by kernel_rfl) hQ (by kernel_rfl) (fun _ _ => by kernel_rfl) hs0 ?_
    refine hx_take (i := 18) (oi := _) (v := .bool false) rfl rfl hns (by kernel_rfl) (by kernel_rfl) hQ (by kernel_rfl) (fun _ _ => by kernel_rfl) hs0 ?_
    refine hx_off (i := 19) (oi := _) rfl rfl hns (by kernel_rfl) (by kernel_rfl) hQ (by kernel_rfl) hs0 ?_
    refine hx_off (i := 20) (oi := _) rfl rfl hns (by kernel_rfl) (by kernel_rfl) hQ (by kernel_rfl) hs0 ?_
    refine hx_off (i := 21) (oi := _) rfl rfl hns (by kernel_rfl) (by kernel_rfl) hQ (by kernel_rfl) hs0 ?_
    refine hx_off (i := 22) (oi := _) rfl rfl hns (by kernel_rfl) (by kernel_rfl) hQ (by kernel_rfl) hs0 ?_
    refine hx_off (i := 23) (oi := _) rfl rfl hns (by kernel_rfl) (by kernel_rfl) hQ (by kernel_rfl) hs0 ?_
    refine hx_off (i := 24) (oi := _) rfl rfl hns (by kernel_rfl) (by kernel_rfl) hQ (by kernel_rfl) hs0 ?_
    refine hx_off (i := 25) (oi := _) rfl rfl hns (by kernel_rfl) (by kernel_rfl) hQ (by kernel_rfl) hs0 ?_
    refine hx_off (i := 26) (oi := _) rfl rfl hns (by kernel_rfl) (by kernel_rfl) hQ (by kernel_rfl) hs0 ?_
    refine hx_off (i := 27) (oi := _) rfl rfl hns (by kernel_rfl) (by kernel_rfl) hQ (by kernel_rfl) hs0 ?_
    refine hx_off (i := 28) (oi := _) rfl rfl hns (by kernel_rfl) (by kernel_rfl) hQ (by kernel_rfl) hs0 ?_
    refine hx_off (i := 29) (oi := _) rfl rfl hns (by kernel_rfl) (by kernel_rfl) hQ (by kernel_rfl) hs0 ?_
    refine hx_off (i := 30) (oi := _) rfl rfl hns (by kernel_rfl) (by kernel_rfl) hQ (by kernel_rfl) hs0 ?_
    refine hx_off (i := 31) (oi := _) rfl rfl hns (by kernel_rfl) (by kernel_rfl) hQ (by kernel_rfl) hs0 ?_
    refine hx_take (i := 32) (oi := _) (v := .bool false) rfl rfl hns (by kernel_rfl) (by kernel_rfl) hQ (by kernel_rfl) (fun _ _ => by kernel_rfl) hs0 ?_
    refine wpAnyH_done (by kernel_rfl) ?_ _
    clear hns hQ
    simp only [List.set_cons_zero, List.set_cons_succ]
    have HXR0 : Hid (X = ({ P with ru := P.ru ++ [((saidX who (.error (k0, e0))).1, (bodyX (saidX who (.error (k0, e0))).2).1)] }, (bodyX (saidX who (.error (k0, e0))).2).2)) := by show _ = _; rw [hX.out, if_neg (by rw [hsec]; decide)]
    have hX4 := hX3.next hs0
    obtain ⟨j4, hr4⟩ := hX4.rd
    have HS := Lib.hid (rsaid10_any who HF.out hr4)
    obtain ⟨⟨⟨a_s, a_p, a_n, ⟨a_v0, a_l0⟩, ⟨a_v1, a_l1⟩, ⟨a_v2, a_l2⟩, ⟨a_v3, a_l3⟩⟩, q5⟩, hq5⟩ : ∃ x, Hid (x = saidX who (.error (k0, e0))) := ⟨_, rfl⟩
    rw [← hq5.out] at HS HXR0
    simp only at HXR0
    obtain ⟨⟨l, q6⟩, hq6⟩ : ∃ x, Hid (x = bodyX q5) := ⟨_, rfl⟩
    have HBD : Hid (∀ W, (∃ j, Rdr W g lv L n q5 j) → Calls Tryz.prog 79 #[.pointer (some ⟨g, 0, none⟩)] W fun e w' => ∃ v, e = .returned v ∧ w'.ownsRow W.heap.size 44 11 v l.length (l.flatMap atmL) ∧ (∃ j, Rdr w' g lv L n q6 j) ∧ OnlyG g W w') := fun W h => by
      obtain ⟨j, h⟩ := h
      have hh := rbody10_any HF.out h
      rw [← hq6.out] at hh
      exact hh
    rw [← hq6.out] at HXR0
    have HXR : Hid (X = ({ P with ru := P.ru ++ [(((a_s, a_p, a_n, (a_v0, a_l0), (a_v1, a_l1), (a_v2, a_l2), (a_v3, a_l3)) : Atm), l)] }, q6)) := HXR0.out
    have HS2 : Hid (Calls Tryz.prog 78 #[.pointer (some ⟨g, 0, none⟩), .string ⟨who.toArray⟩] w3.drew fun e w' => e = .returned (.agg #[.string ⟨a_s.toArray⟩, .string ⟨a_p.toArray⟩, .int .i64 a_n, .bool a_v0, .string ⟨a_l0.toArray⟩, .bool a_v1, .string ⟨a_l1.toArray⟩, .bool a_v2, .string ⟨a_l2.toArray⟩, .bool a_v3, .string ⟨a_l3.toArray⟩]) ∧ (∃ j, Rdr w' g lv L n q5 j) ∧ OnlyG g w3.drew w') := HS.out
    clear hX hsec hX3 hr4 HS hq5 hq6 HXR0 hs0 hE4 he hlv
    go_wp2_with fail
    refine HS2.out.mono ?_
    rintro e w5 ⟨rfl, hr5, hk5⟩
    have hX5 := hX4.only hr5 hk5
    have hSa : Since w5 (w5.alloc (.cells #[.string ⟨a_s.toArray⟩, .string ⟨a_p.toArray⟩, .int .i64 a_n, .bool a_v0, .string ⟨a_l0.toArray⟩, .bool a_v1, .string ⟨a_l1.toArray⟩, .bool a_v2, .string ⟨a_l2.toArray⟩, .bool a_v3, .string ⟨a_l3.toArray⟩] 44)) := (Since.refl _).alloc _
    have hX := hX5.next hSa
    have hH : Cel (w5.alloc (.cells #[.string ⟨a_s.toArray⟩, .string ⟨a_p.toArray⟩, .int .i64 a_n, .bool a_v0, .string ⟨a_l0.toArray⟩, .bool a_v1, .string ⟨a_l1.toArray⟩, .bool a_v2, .string ⟨a_l2.toArray⟩, .bool a_v3, .string ⟨a_l3.toArray⟩] 44)) w5.heap.size #[.string ⟨a_s.toArray⟩, .string ⟨a_p.toArray⟩, .int .i64 a_n, .bool a_v0, .string ⟨a_l0.toArray⟩, .bool a_v1, .string ⟨a_l1.toArray⟩, .bool a_v2, .string ⟨a_l2.toArray⟩, .bool a_v3, .string ⟨a_l3.toArray⟩] 44 := heap_alloc_new _ _
    clear HS2 hX4 hr5 hk5 hX5 hSa
    go_upto_region 9 with (fail)
    obtain ⟨hb, hhb⟩ : ∃ x, Hid (x = w5.heap.size) := ⟨_, rfl⟩
    simp only [← hhb.out]
    rw [← hhb.out] at hH
    clear hhb
    generalize (w5.alloc (.cells #[.string ⟨a_s.toArray⟩, .string ⟨a_p.toArray⟩, .int .i64 a_n, .bool a_v0, .string ⟨a_l0.toArray⟩, .bool a_v1, .string ⟨a_l1.toArray⟩, .bool a_v2, .string ⟨a_l2.toArray⟩, .bool a_v3, .string ⟨a_l3.toArray⟩] 44)) = w6 at *
    have hHg : Hid (¬ hb = g) := by obtain ⟨j, hr⟩ := hX.rd; exact cel_cel_ne hH hr.cel (by decide)
    have hHp : Hid (hb ≠ gp) := cel_cel_ne hH hX.box (by decide)
    obtain ⟨i5, hi5, hz0, hz1, hz2⟩ := info_parts info_ru
    have I5 := Lib.hid (And.intro hi5 (And.intro hz0 (And.intro hz1 hz2)))
    clear hi5 hz0 hz1 hz2
    obtain ⟨va, vc, rfl⟩ := own_slice hX.own.ru.row
    have HRU : Hid (U.length + 1 ≤ 70000) := by show _ ≤ _; have h1 := congrArg List.length hX.own.eU; rw [List.length_map] at h1; have := HRM.out.1; omega

    have hSd : Since w6 w6.drew := (Since.refl _).drew
    replace hX := hX.next hSd
    replace hH := hH.next hSd
    clear hSd
    refine hx_begin (S := fun W => Cel W hb #[.string ⟨a_s.toArray⟩, .string ⟨a_p.toArray⟩, .int .i64 a_n, .bool a_v0, .string ⟨a_l0.toArray⟩, .bool a_v1, .string ⟨a_l1.toArray⟩, .bool a_v2, .string ⟨a_l2.toArray⟩, .bool a_v3, .string ⟨a_l3.toArray⟩] 44) (by kernel_rfl) hH (by kernel_rfl) (fun _ _ _ _ _ h => h) (fun hns hQ => ?_)
    refine hx_take (i := 0) (oi := _) (v := .pointer (some ⟨gp, 0, none⟩)) rfl rfl hns (by kernel_rfl) (by kernel_rfl) hQ (by kernel_rfl) (fun _ _ => by kernel_rfl) hH ?_
    refine hx_take (i := 1) (oi := _) (v := .pointer (some ⟨gp, 0, none⟩)) rfl rfl hns (by kernel_rfl) (by kernel_rfl) hQ (by kernel_rfl) (fun _ _ => by kernel_rfl) hH ?_
    refine hx_take (i := 2) (oi := _) (v := .pointer (some ⟨gp, 0, none⟩)) rfl rfl hns (by kernel_rfl) (by kernel_rfl) hQ (by kernel_rfl) (fun _ _ => by kernel_rfl) hH ?_
    refine hx_take (i := 3) (oi := _) (v := .pointer (some ⟨gp, 5, none⟩)) rfl rfl hns (by kernel_rfl) (by kernel_rfl) hQ (by kernel_rfl) (fun _ _ => by kernel_rfl) hH ?_
    refine hx_take (i := 5) (oi := _) (v := .agg #[.string ⟨a_s.toArray⟩, .string ⟨a_p.toArray⟩, .int .i64 a_n, .bool a_v0, .string ⟨a_l0.toArray⟩, .bool a_v1, .string ⟨a_l1.toArray⟩, .bool a_v2, .string ⟨a_l2.toArray⟩, .bool a_v3, .string ⟨a_l3.toArray⟩]) rfl rfl hns (by kernel_rfl) (by kernel_rfl) hQ (by kernel_rfl) (fun W hW => ld_at rfl (by kernel_rfl) (by kernel_rfl) (by kernel_rfl) W (Cel.at hW)) hH ?_
    refine hx_take (i := 6) (oi := _) (v := .pointer (some ⟨g, 0, none⟩)) rfl rfl hns (by kernel_rfl) (by kernel_rfl) hQ (by kernel_rfl) (fun _ _ => by kernel_rfl) hH ?_
    refine hx_two_vc (i := 4) (j := 7) (.slice va U.length vc) (w6.drew) 79 #[.pointer (some ⟨g, 0, none⟩)] rfl rfl (by kernel_rfl) (by kernel_rfl) (by kernel_rfl) rfl (ld_one rfl (by kernel_rfl) (by kernel_rfl) w6.drew ((hX.box).cell 5)) hH rfl (by kernel_rfl) (HBD.out _ hX.rd) ?_ ?_
    · refine hx_call (i := 7) (oi := _) 79 #[.pointer (some ⟨g, 0, none⟩)] rfl rfl (by kernel_rfl) (by kernel_rfl) (by kernel_rfl) (HBD.out _ hX.rd) ?_
      rintro e wx51 ⟨u, rfl, hu, hr7, hk7⟩
      have hX0 := hX
      obtain ⟨ua, uc, rfl⟩ := own_slice hu
      replace hX := hX.only hr7 hk7
      replace hH := hk7.cel hH hHg.out
      clear hr7 hk7
      refine ⟨_, rfl, hH, ?_⟩
      refine hx_take (i := 8) (oi := _) (v := .agg #[.string ⟨a_s.toArray⟩, .string ⟨a_p.toArray⟩, .int .i64 a_n, .bool a_v0, .string ⟨a_l0.toArray⟩, .bool a_v1, .string ⟨a_l1.toArray⟩, .bool a_v2, .string ⟨a_l2.toArray⟩, .bool a_v3, .string ⟨a_l3.toArray⟩, .slice ua l.length uc]) rfl rfl hns (by kernel_rfl) (by kernel_rfl) hQ (by kernel_rfl) (fun _ _ => by kernel_rfl) hH ?_
      refine hx_make (i := 9) (oi := _) (.slice (some ⟨wx51.heap.size, 0, none⟩) 1 1) (wx51.alloc (.cells #[.string ⟨a_s.toArray⟩, .string ⟨a_p.toArray⟩, .int .i64 a_n, .bool a_v0, .string ⟨a_l0.toArray⟩, .bool a_v1, .string ⟨a_l1.toArray⟩, .bool a_v2, .string ⟨a_l2.toArray⟩, .bool a_v3, .string ⟨a_l3.toArray⟩, .slice ua l.length uc] 47)) rfl rfl (by kernel_rfl) (by kernel_rfl) (by kernel_rfl) (hH.next ((Since.refl _).alloc _)) ?_
      have hSk : Since wx51 (wx51.alloc (.cells #[.string ⟨a_s.toArray⟩, .string ⟨a_p.toArray⟩, .int .i64 a_n, .bool a_v0, .string ⟨a_l0.toArray⟩, .bool a_v1, .string ⟨a_l1.toArray⟩, .bool a_v2, .string ⟨a_l2.toArray⟩, .bool a_v3, .string ⟨a_l3.toArray⟩, .slice ua l.length uc] 47)) := (Since.refl _).alloc _
      replace hX := hX.next hSk
      replace hH := hH.next hSk
      replace hu := own_since hu hSk
      clear hSk
      have hKB : Cel (wx51.alloc (.cells #[.string ⟨a_s.toArray⟩, .string ⟨a_p.toArray⟩, .int .i64 a_n, .bool a_v0, .string ⟨a_l0.toArray⟩, .bool a_v1, .string ⟨a_l1.toArray⟩, .bool a_v2, .string ⟨a_l2.toArray⟩, .bool a_v3, .string ⟨a_l3.toArray⟩, .slice ua l.length uc] 47)) wx51.heap.size #[.string ⟨a_s.toArray⟩, .string ⟨a_p.toArray⟩, .int .i64 a_n, .bool a_v0, .string ⟨a_l0.toArray⟩, .bool a_v1, .string ⟨a_l1.toArray⟩, .bool a_v2, .string ⟨a_l2.toArray⟩, .bool a_v3, .string ⟨a_l3.toArray⟩, .slice ua l.length uc] 47 := heap_alloc_new _ _
      refine hx_append (i := 10) (oi := _) (.tmp 73) (.tmp 78) 26 w0.heap.size 47 i5 (.agg #[.string ByteArray.empty, .string ByteArray.empty, .int .i64 0, .bool false, .string ByteArray.empty, .bool false, .string ByteArray.empty, .bool false, .string ByteArray.empty, .bool false, .string ByteArray.empty, .slice none 0 0]) 12 160 (.slice va U.length vc) U.length _ _ (some ⟨wx51.heap.size, 0, none⟩) 1 1 (#[.string ⟨a_s.toArray⟩, .string ⟨a_p.toArray⟩, .int .i64 a_n, .bool a_v0, .string ⟨a_l0.toArray⟩, .bool a_v1, .string ⟨a_l1.toArray⟩, .bool a_v2, .string ⟨a_l2.toArray⟩, .bool a_v3, .string ⟨a_l3.toArray⟩, .slice ua l.length uc] : Array Value).toList rfl rfl (by kernel_rfl) (by kernel_rfl) rfl Tryz.underlying26 I5.out.1 I5.out.2.1 I5.out.2.2.1 I5.out.2.2.2 rfl (by decide) (by kernel_rfl) hX.own.ru.row (by kernel_rfl) (reads_celR hKB (K := 12) rfl) (by simp [Value.oneCell']) (by have := HRU.out; unfold maxLen; omega) (by have := HRU.out; omega) (hX.sin.size) ?_
      intro v6 w6 hown6 hg6 hat6
      obtain ⟨a6, c6, rfl⟩ := own_slice hown6
      have HFIN := Lib.hid (hX.push_ru (x := (((a_s, a_p, a_n, (a_v0, a_l0), (a_v1, a_l1), (a_v2, a_l2), (a_v3, a_l3)) : Atm), l)) (v6 := .slice a6 (U.length + 1) c6) hX0 hu hown6 hg6 hat6)
      have hBx := cel_own hX.box hX.own.ru.row (by decide) hg6
      replace hH := cel_own hH hX.own.ru.row (by decide) hg6
      clear hown6 hg6 hat6 hX0 hu
      refine ⟨hH, ?_⟩
      refine hx_take (i := 11) (oi := _) (v := .pointer (some ⟨gp, 0, none⟩)) rfl rfl hns (by kernel_rfl) (by kernel_rfl) hQ (by kernel_rfl) (fun _ _ => by kernel_rfl) hH ?_
      refine hx_take (i := 12) (oi := _) (v := .pointer (some ⟨gp, 5, none⟩)) rfl rfl hns (by kernel_rfl) (by kernel_rfl) hQ (by kernel_rfl) (fun _ _ => by kernel_rfl) hH ?_
      refine hx_store (i := 13) (oi := _) (w6.setCell ⟨gp, 5, none⟩ (.slice a6 (U.length + 1) c6)) rfl rfl (by kernel_rfl) (by kernel_rfl) (st_ru rfl (by kernel_rfl) (by kernel_rfl) _ hBx rfl) (hH.far hHp.out _) ?_
      refine wpAnyH_done (by kernel_rfl) ?_ _
      clear hns hQ
      simp only [List.set_cons_zero, List.set_cons_succ]
      clear hX hH hBx hKB I5 i5
      go_wp2_with fail
      go_end0
      exact hgood.out _ _ _ HXR.out ⟨_, _, _, _, _, _, _, _, _, _, HFIN.out⟩
    · rintro e wx51 ⟨u, rfl, hu, hr7, hk7⟩
      have hX0 := hX
      obtain ⟨ua, uc, rfl⟩ := own_slice hu
      replace hX := hX.only hr7 hk7
      replace hH := hk7.cel hH hHg.out
      clear hr7 hk7
      refine ⟨_, rfl, hH, ?_⟩
      refine hx_take (i := 8) (oi := _) (v := .agg #[.string ⟨a_s.toArray⟩, .string ⟨a_p.toArray⟩, .int .i64 a_n, .bool a_v0, .string ⟨a_l0.toArray⟩, .bool a_v1, .string ⟨a_l1.toArray⟩, .bool a_v2, .string ⟨a_l2.toArray⟩, .bool a_v3, .string ⟨a_l3.toArray⟩, .slice ua l.length uc]) rfl rfl hns (by kernel_rfl) (by kernel_rfl) hQ (by kernel_rfl) (fun _ _ => by kernel_rfl) hH ?_
      refine hx_two_vv (i := 4) (j := 9) (.slice va U.length vc) (wx51) (.slice (some ⟨wx51.heap.size, 0, none⟩) 1 1) ((wx51.alloc (.cells #[.string ⟨a_s.toArray⟩, .string ⟨a_p.toArray⟩, .int .i64 a_n, .bool a_v0, .string ⟨a_l0.toArray⟩, .bool a_v1, .string ⟨a_l1.toArray⟩, .bool a_v2, .string ⟨a_l2.toArray⟩, .bool a_v3, .string ⟨a_l3.toArray⟩, .slice ua l.length uc] 47))) rfl rfl (by kernel_rfl) (by kernel_rfl) (by kernel_rfl) rfl (ld_one rfl (by kernel_rfl) (by kernel_rfl) wx51 ((hX.box).cell 5)) hH rfl (by kernel_rfl) (hH.next ((Since.refl _).alloc _)) ?_ ?_
      · refine hx_make (i := 9) (oi := _) (.slice (some ⟨wx51.heap.size, 0, none⟩) 1 1) (wx51.alloc (.cells #[.string ⟨a_s.toArray⟩, .string ⟨a_p.toArray⟩, .int .i64 a_n, .bool a_v0, .string ⟨a_l0.toArray⟩, .bool a_v1, .string ⟨a_l1.toArray⟩, .bool a_v2, .string ⟨a_l2.toArray⟩, .bool a_v3, .string ⟨a_l3.toArray⟩, .slice ua l.length uc] 47)) rfl rfl (by kernel_rfl) (by kernel_rfl) (by kernel_rfl) (hH.next ((Since.refl _).alloc _)) ?_
        have hSk : Since wx51 (wx51.alloc (.cells #[.string ⟨a_s.toArray⟩, .string ⟨a_p.toArray⟩, .int .i64 a_n, .bool a_v0, .string ⟨a_l0.toArray⟩, .bool a_v1, .string ⟨a_l1.toArray⟩, .bool a_v2, .string ⟨a_l2.toArray⟩, .bool a_v3, .string ⟨a_l3.toArray⟩, .slice ua l.length uc] 47)) := (Since.refl _).alloc _
        replace hX := hX.next hSk
        replace hH := hH.next hSk
        replace hu := own_since hu hSk
        clear hSk
        have hKB : Cel (wx51.alloc (.cells #[.string ⟨a_s.toArray⟩, .string ⟨a_p.toArray⟩, .int .i64 a_n, .bool a_v0, .string ⟨a_l0.toArray⟩, .bool a_v1, .string ⟨a_l1.toArray⟩, .bool a_v2, .string ⟨a_l2.toArray⟩, .bool a_v3, .string ⟨a_l3.toArray⟩, .slice ua l.length uc] 47)) wx51.heap.size #[.string ⟨a_s.toArray⟩, .string ⟨a_p.toArray⟩, .int .i64 a_n, .bool a_v0, .string ⟨a_l0.toArray⟩, .bool a_v1, .string ⟨a_l1.toArray⟩, .bool a_v2, .string ⟨a_l2.toArray⟩, .bool a_v3, .string ⟨a_l3.toArray⟩, .slice ua l.length uc] 47 := heap_alloc_new _ _
        refine hx_append (i := 10) (oi := _) (.tmp 73) (.tmp 78) 26 w0.heap.size 47 i5 (.agg #[.string ByteArray.empty, .string ByteArray.empty, .int .i64 0, .bool false, .string ByteArray.empty, .bool false, .string ByteArray.empty, .bool false, .string ByteArray.empty, .bool false, .string ByteArray.empty, .slice none 0 0]) 12 160 (.slice va U.length vc) U.length _ _ (some ⟨wx51.heap.size, 0, none⟩) 1 1 (#[.string ⟨a_s.toArray⟩, .string ⟨a_p.toArray⟩, .int .i64 a_n, .bool a_v0, .string ⟨a_l0.toArray⟩, .bool a_v1, .string ⟨a_l1.toArray⟩, .bool a_v2, .string ⟨a_l2.toArray⟩, .bool a_v3, .string ⟨a_l3.toArray⟩, .slice ua l.length uc] : Array Value).toList rfl rfl (by kernel_rfl) (by kernel_rfl) rfl Tryz.underlying26 I5.out.1 I5.out.2.1 I5.out.2.2.1 I5.out.2.2.2 rfl (by decide) (by kernel_rfl) hX.own.ru.row (by kernel_rfl) (reads_celR hKB (K := 12) rfl) (by simp [Value.oneCell']) (by have := HRU.out; unfold maxLen; omega) (by have := HRU.out; omega) (hX.sin.size) ?_
        intro v6 w6 hown6 hg6 hat6
        obtain ⟨a6, c6, rfl⟩ := own_slice hown6
        have HFIN := Lib.hid (hX.push_ru (x := (((a_s, a_p, a_n, (a_v0, a_l0), (a_v1, a_l1), (a_v2, a_l2), (a_v3, a_l3)) : Atm), l)) (v6 := .slice a6 (U.length + 1) c6) hX0 hu hown6 hg6 hat6)
        have hBx := cel_own hX.box hX.own.ru.row (by decide) hg6
        replace hH := cel_own hH hX.own.ru.row (by decide) hg6
        clear hown6 hg6 hat6 hX0 hu
        refine ⟨hH, ?_⟩
        refine hx_take (i := 11) (oi := _) (v := .pointer (some ⟨gp, 0, none⟩)) rfl rfl hns (by kernel_rfl) (by kernel_rfl) hQ (by kernel_rfl) (fun _ _ => by kernel_rfl) hH ?_
        refine hx_take (i := 12) (oi := _) (v := .pointer (some ⟨gp, 5, none⟩)) rfl rfl hns (by kernel_rfl) (by kernel_rfl) hQ (by kernel_rfl) (fun _ _ => by kernel_rfl) hH ?_
        refine hx_store (i := 13) (oi := _) (w6.setCell ⟨gp, 5, none⟩ (.slice a6 (U.length + 1) c6)) rfl rfl (by kernel_rfl) (by kernel_rfl) (st_ru rfl (by kernel_rfl) (by kernel_rfl) _ hBx rfl) (hH.far hHp.out _) ?_
        refine wpAnyH_done (by kernel_rfl) ?_ _
        clear hns hQ
        simp only [List.set_cons_zero, List.set_cons_succ]
        clear hX hH hBx hKB I5 i5
        go_wp2_with fail
        go_end0
        exact hgood.out _ _ _ HXR.out ⟨_, _, _, _, _, _, _, _, _, _, HFIN.out⟩
      · have hSk : Since wx51 (wx51.alloc (.cells #[.string ⟨a_s.toArray⟩, .string ⟨a_p.toArray⟩, .int .i64 a_n, .bool a_v0, .string ⟨a_l0.toArray⟩, .bool a_v1, .string ⟨a_l1.toArray⟩, .bool a_v2, .string ⟨a_l2.toArray⟩, .bool a_v3, .string ⟨a_l3.toArray⟩, .slice ua l.length uc] 47)) := (Since.refl _).alloc _
        replace hX := hX.next hSk
        replace hH := hH.next hSk
        replace hu := own_since hu hSk
        clear hSk
        have hKB : Cel (wx51.alloc (.cells #[.string ⟨a_s.toArray⟩, .string ⟨a_p.toArray⟩, .int .i64 a_n, .bool a_v0, .string ⟨a_l0.toArray⟩, .bool a_v1, .string ⟨a_l1.toArray⟩, .bool a_v2, .string ⟨a_l2.toArray⟩, .bool a_v3, .string ⟨a_l3.toArray⟩, .slice ua l.length uc] 47)) wx51.heap.size #[.string ⟨a_s.toArray⟩, .string ⟨a_p.toArray⟩, .int .i64 a_n, .bool a_v0, .string ⟨a_l0.toArray⟩, .bool a_v1, .string ⟨a_l1.toArray⟩, .bool a_v2, .string ⟨a_l2.toArray⟩, .bool a_v3, .string ⟨a_l3.toArray⟩, .slice ua l.length uc] 47 := heap_alloc_new _ _
        refine hx_make (i := 4) (oi := _) (.slice va U.length vc) ((wx51.alloc (.cells #[.string ⟨a_s.toArray⟩, .string ⟨a_p.toArray⟩, .int .i64 a_n, .bool a_v0, .string ⟨a_l0.toArray⟩, .bool a_v1, .string ⟨a_l1.toArray⟩, .bool a_v2, .string ⟨a_l2.toArray⟩, .bool a_v3, .string ⟨a_l3.toArray⟩, .slice ua l.length uc] 47))) rfl rfl (by kernel_rfl) (by kernel_rfl) (ld_one rfl (by kernel_rfl) (by kernel_rfl) (wx51.alloc (.cells #[.string ⟨a_s.toArray⟩, .string ⟨a_p.toArray⟩, .int .i64 a_n, .bool a_v0, .string ⟨a_l0.toArray⟩, .bool a_v1, .string ⟨a_l1.toArray⟩, .bool a_v2, .string ⟨a_l2.toArray⟩, .bool a_v3, .string ⟨a_l3.toArray⟩, .slice ua l.length uc] 47)) ((hX.box).cell 5)) hH ?_
        refine hx_append (i := 10) (oi := _) (.tmp 73) (.tmp 78) 26 w0.heap.size 47 i5 (.agg #[.string ByteArray.empty, .string ByteArray.empty, .int .i64 0, .bool false, .string ByteArray.empty, .bool false, .string ByteArray.empty, .bool false, .string ByteArray.empty, .bool false, .string ByteArray.empty, .slice none 0 0]) 12 160 (.slice va U.length vc) U.length _ _ (some ⟨wx51.heap.size, 0, none⟩) 1 1 (#[.string ⟨a_s.toArray⟩, .string ⟨a_p.toArray⟩, .int .i64 a_n, .bool a_v0, .string ⟨a_l0.toArray⟩, .bool a_v1, .string ⟨a_l1.toArray⟩, .bool a_v2, .string ⟨a_l2.toArray⟩, .bool a_v3, .string ⟨a_l3.toArray⟩, .slice ua l.length uc] : Array Value).toList rfl rfl (by kernel_rfl) (by kernel_rfl) rfl Tryz.underlying26 I5.out.1 I5.out.2.1 I5.out.2.2.1 I5.out.2.2.2 rfl (by decide) (by kernel_rfl) hX.own.ru.row (by kernel_rfl) (reads_celR hKB (K := 12) rfl) (by simp [Value.oneCell']) (by have := HRU.out; unfold maxLen; omega) (by have := HRU.out; omega) (hX.sin.size) ?_
        intro v6 w6 hown6 hg6 hat6
        obtain ⟨a6, c6, rfl⟩ := own_slice hown6
        have HFIN := Lib.hid (hX.push_ru (x := (((a_s, a_p, a_n, (a_v0, a_l0), (a_v1, a_l1), (a_v2, a_l2), (a_v3, a_l3)) : Atm), l)) (v6 := .slice a6 (U.length + 1) c6) hX0 hu hown6 hg6 hat6)
        have hBx := cel_own hX.box hX.own.ru.row (by decide) hg6
        replace hH := cel_own hH hX.own.ru.row (by decide) hg6
        clear hown6 hg6 hat6 hX0 hu
        refine ⟨hH, ?_⟩
        refine hx_take (i := 11) (oi := _) (v := .pointer (some ⟨gp, 0, none⟩)) rfl rfl hns (by kernel_rfl) (by kernel_rfl) hQ (by kernel_rfl) (fun _ _ => by kernel_rfl) hH ?_
        refine hx_take (i := 12) (oi := _) (v := .pointer (some ⟨gp, 5, none⟩)) rfl rfl hns (by kernel_rfl) (by kernel_rfl) hQ (by kernel_rfl) (fun _ _ => by kernel_rfl) hH ?_
        refine hx_store (i := 13) (oi := _) (w6.setCell ⟨gp, 5, none⟩ (.slice a6 (U.length + 1) c6)) rfl rfl (by kernel_rfl) (by kernel_rfl) (st_ru rfl (by kernel_rfl) (by kernel_rfl) _ hBx rfl) (hH.far hHp.out _) ?_
        refine wpAnyH_done (by kernel_rfl) ?_ _
        clear hns hQ
        simp only [List.set_cons_zero, List.set_cons_succ]
        clear hX hH hBx hKB I5 i5
        go_wp2_with fail
        go_end0
        exact hgood.out _ _ _ HXR.out ⟨_, _, _, _, _, _, _, _, _, _, HFIN.out⟩
  | ok r =>
    obtain ⟨hs1, hs2⟩ := hr3.sub
    have hE4 : At w3 g 4 #[.int .i64 0] := At.one (hr3.cel.cell 4)
    have hI1 : At w3 g 1 #[.int .i64 (i : Int)] := At.one (hr3.cel.cell 1)
    obtain ⟨i1, hi1⟩ : ∃ x, Hid (x = i + 1) := ⟨_, rfl⟩
    have hw1 : IntKind.i64.wrap ((i : Int) + 1) = (i1 : Int) := by rw [hi1.out, IntWalk.i64_in _ (by have := hr3.len; have := hr3.ile; omega)]; omega
    cases hd : r.drop 1 with
    | nil =>
      have h1 : (L.length : Int) ≤ (i1 : Int) := by
        have hh := congrArg List.length hd
        rw [List.length_drop, List.length_nil] at hh
        rw [hi1.out]; omega
      have hL0 : At w3 g 0 #[.slice la L.length lc] := At.one (by rw [← hlv]; exact hr3.cel.cell 0)
      have hsec : secS wCansay (.ok r) = false := by show isT wCansay (r.drop 1) = false; rw [hd]; rfl
      clear hr3 hs1 hs2 hd hi1
      go_upto_region 2 with (fail)
      have hs0 : Since w3 w3.drew := (Since.refl _).drew
      refine hx_begin (S := fun W => Since w3 W) (by kernel_rfl) hs0 (by kernel_rfl) (fun _ _ _ _ _ h => h) (fun hns hQ => ?_)
      refine hx_take (i := 0) (oi := _) (v := .pointer (some ⟨g, 0, none⟩)) rfl rfl hns (by kernel_rfl) (by kernel_rfl) hQ (by kernel_rfl) (fun _ _ => by kernel_rfl) hs0 ?_
      refine hx_take (i := 1) (oi := _) (v := .pointer (some ⟨g, 0, none⟩)) rfl rfl hns (by kernel_rfl) (by kernel_rfl) hQ (by kernel_rfl) (fun _ _ => by kernel_rfl) hs0 ?_
      refine hx_take (i := 2) (oi := _) (v := .pointer (some ⟨g, 4, none⟩)) rfl rfl hns (by kernel_rfl) (by kernel_rfl) hQ (by kernel_rfl) (fun _ _ => by kernel_rfl) hs0 ?_
      refine hx_take (i := 3) (oi := _) (v := .int .i64 0) rfl rfl hns (by kernel_rfl) (by kernel_rfl) hQ (by kernel_rfl) (fun W hW => ld_one rfl (by kernel_rfl) (by kernel_rfl) W (hE4.next hW 0 _ rfl)) hs0 ?_
      refine hx_take (i := 4) (oi := _) (v := .bool true) rfl rfl hns (by kernel_rfl) (by kernel_rfl) hQ (by kernel_rfl) (fun W _ => eqs_intE (s := 0) rfl (by kernel_rfl) (by kernel_rfl) W) hs0 ?_
      refine hx_take (i := 5) (oi := _) (v := .bool true) rfl rfl hns (by kernel_rfl) (by kernel_rfl) hQ (by kernel_rfl) (fun _ _ => by kernel_rfl) hs0 ?_
      refine hx_take (i := 6) (oi := _) (v := .pointer (some ⟨g, 0, none⟩)) rfl rfl hns (by kernel_rfl) (by kernel_rfl) hQ (by kernel_rfl) (fun _ _ => by kernel_rfl) hs0 ?_
      refine hx_take (i := 7) (oi := _) (v := .pointer (some ⟨g, 0, none⟩)) rfl rfl hns (by kernel_rfl) (by kernel_rfl) hQ (by kernel_rfl) (fun _ _ => by kernel_rfl) hs0 ?_
      refine hx_take (i := 8) (oi := _) (v := .pointer (some ⟨g, 1, none⟩)) rfl rfl hns (by kernel_rfl) (by kernel_rfl) hQ (by kernel_rfl) (fun _ _ => by kernel_rfl) hs0 ?_
      refine hx_take (i := 9) (oi := _) (v := .int .i64 (i : Int)) rfl rfl hns (by kernel_rfl) (by kernel_rfl) hQ (by kernel_rfl) (fun W hW => ld_one rfl (by kernel_rfl) (by kernel_rfl) W (hI1.next hW 0 _ rfl)) hs0 ?_
      refine hx_take (i := 10) (oi := _) (v := .int .i64 (i1 : Int)) rfl rfl hns (by kernel_rfl) (by kernel_rfl) hQ (by kernel_rfl) (fun W _ => addP_int rfl (by kernel_rfl) (by kernel_rfl) hw1 W) hs0 ?_
      refine hx_take (i := 11) (oi := _) (v := .pointer (some ⟨g, 0, none⟩)) rfl rfl hns (by kernel_rfl) (by kernel_rfl) hQ (by kernel_rfl) (fun _ _ => by kernel_rfl) hs0 ?_
      refine hx_take (i := 12) (oi := _) (v := .pointer (some ⟨g, 0, none⟩)) rfl rfl hns (by kernel_rfl) (by kernel_rfl) hQ (by kernel_rfl) (fun _ _ => by kernel_rfl) hs0 ?_
      refine hx_take (i := 13) (oi := _) (v := .pointer (some ⟨g, 0, none⟩)) rfl rfl hns (by kernel_rfl) (by kernel_rfl) hQ (by kernel_rfl) (fun _ _ => by kernel_rfl) hs0 ?_
      refine hx_take (i := 14) (oi := _) (v := .slice la L.length lc) rfl rfl hns (by kernel_rfl) (by kernel_rfl) hQ (by kernel_rfl) (fun W hW => ld_one rfl (by kernel_rfl) (by kernel_rfl) W (hL0.next hW 0 _ rfl)) hs0 ?_
      refine hx_take (i := 15) (oi := _) (v := .int .i64 (L.length : Int)) rfl rfl hns (by kernel_rfl) (by kernel_rfl) hQ (by kernel_rfl) (fun _ _ => by kernel_rfl) hs0 ?_
      refine hx_take (i := 16) (oi := _) (v := .bool false) rfl rfl hns (by kernel_rfl) (by kernel_rfl) hQ (by kernel_rfl) (fun W _ => lssP_no rfl (by kernel_rfl) (by kernel_rfl) (Int.not_lt.2 h1) W) hs0 ?_
      refine hx_take (i := 17) (oi := _) (v := .bool false) rfl rfl hns (by kernel_rfl) (by kernel_rfl) hQ (by kernel_rfl) (fun _ _ => by kernel_rfl) hs0 ?_
      refine hx_take (i := 18) (oi := _) (v := .bool false) rfl rfl hns (by kernel_rfl) (by kernel_rfl) hQ (by kernel_rfl) (fun _ _ => by kernel_rfl) hs0 ?_
      refine hx_off (i := 19) (oi := _) rfl rfl hns (by kernel_rfl) (by kernel_rfl) hQ (by kernel_rfl) hs0 ?_
      refine hx_off (i := 20) (oi := _) rfl rfl hns (by kernel_rfl) (by kernel_rfl) hQ (by kernel_rfl) hs0 ?_
      refine hx_off (i := 21) (oi := _) rfl rfl hns (by kernel_rfl) (by kernel_rfl) hQ (by kernel_rfl) hs0 ?_
      refine hx_off (i := 22) (oi := _) rfl rfl hns (by kernel_rfl) (by kernel_rfl) hQ (by kernel_rfl) hs0 ?_
      refine hx_off (i := 23) (oi := _) rfl rfl hns (by kernel_rfl) (by kernel_rfl) hQ (by kernel_rfl) hs0 ?_
      refine hx_off (i := 24) (oi := _) rfl rfl hns (by kernel_rfl) (by kernel_rfl) hQ (by kernel_rfl) hs0 ?_
      refine hx_off (i := 25) (oi := _) rfl rfl hns (by kernel_rfl) (by kernel_rfl) hQ (by kernel_rfl) hs0 ?_
      refine hx_off (i := 26) (oi := _) rfl rfl hns (by kernel_rfl) (by kernel_rfl) hQ (by kernel_rfl) hs0 ?_
      refine hx_off (i := 27) (oi := _) rfl rfl hns (by kernel_rfl) (by kernel_rfl) hQ (by kernel_rfl) hs0 ?_
      refine hx_off (i := 28) (oi := _) rfl rfl hns (by kernel_rfl) (by kernel_rfl) hQ (by kernel_rfl) hs0 ?_
      refine hx_off (i := 29) (oi := _) rfl rfl hns (by kernel_rfl) (by kernel_rfl) hQ (by kernel_rfl) hs0 ?_
      refine hx_off (i := 30) (oi := _) rfl rfl hns (by kernel_rfl) (by kernel_rfl) hQ (by kernel_rfl) hs0 ?_
      refine hx_off (i := 31) (oi := _) rfl rfl hns (by kernel_rfl) (by kernel_rfl) hQ (by kernel_rfl) hs0 ?_
      refine hx_take (i := 32) (oi := _) (v := .bool false) rfl rfl hns (by kernel_rfl) (by kernel_rfl) hQ (by kernel_rfl) (fun _ _ => by kernel_rfl) hs0 ?_
      refine wpAnyH_done (by kernel_rfl) ?_ _
      clear hns hQ
      simp only [List.set_cons_zero, List.set_cons_succ]
      have HXR0 : Hid (X = ({ P with ru := P.ru ++ [((saidX who (.ok r)).1, (bodyX (saidX who (.ok r)).2).1)] }, (bodyX (saidX who (.ok r)).2).2)) := by show _ = _; rw [hX.out, if_neg (by rw [hsec]; decide)]
      have hX4 := hX3.next hs0
      obtain ⟨j4, hr4⟩ := hX4.rd
      have HS := Lib.hid (rsaid10_any who HF.out hr4)
      obtain ⟨⟨⟨a_s, a_p, a_n, ⟨a_v0, a_l0⟩, ⟨a_v1, a_l1⟩, ⟨a_v2, a_l2⟩, ⟨a_v3, a_l3⟩⟩, q5⟩, hq5⟩ : ∃ x, Hid (x = saidX who (.ok r)) := ⟨_, rfl⟩
      rw [← hq5.out] at HS HXR0
      simp only at HXR0
      obtain ⟨⟨l, q6⟩, hq6⟩ : ∃ x, Hid (x = bodyX q5) := ⟨_, rfl⟩
      have HBD : Hid (∀ W, (∃ j, Rdr W g lv L n q5 j) → Calls Tryz.prog 79 #[.pointer (some ⟨g, 0, none⟩)] W fun e w' => ∃ v, e = .returned v ∧ w'.ownsRow W.heap.size 44 11 v l.length (l.flatMap atmL) ∧ (∃ j, Rdr w' g lv L n q6 j) ∧ OnlyG g W w') := fun W h => by
        obtain ⟨j, h⟩ := h
        have hh := rbody10_any HF.out h
        rw [← hq6.out] at hh
        exact hh
      rw [← hq6.out] at HXR0
      have HXR : Hid (X = ({ P with ru := P.ru ++ [(((a_s, a_p, a_n, (a_v0, a_l0), (a_v1, a_l1), (a_v2, a_l2), (a_v3, a_l3)) : Atm), l)] }, q6)) := HXR0.out
      have HS2 : Hid (Calls Tryz.prog 78 #[.pointer (some ⟨g, 0, none⟩), .string ⟨who.toArray⟩] w3.drew fun e w' => e = .returned (.agg #[.string ⟨a_s.toArray⟩, .string ⟨a_p.toArray⟩, .int .i64 a_n, .bool a_v0, .string ⟨a_l0.toArray⟩, .bool a_v1, .string ⟨a_l1.toArray⟩, .bool a_v2, .string ⟨a_l2.toArray⟩, .bool a_v3, .string ⟨a_l3.toArray⟩]) ∧ (∃ j, Rdr w' g lv L n q5 j) ∧ OnlyG g w3.drew w') := HS.out
      clear hX hsec hX3 hr4 HS hq5 hq6 HXR0 hs0 hE4 hI1 hL0 hw1 h1 hlv
      go_wp2_with fail
      refine HS2.out.mono ?_
      rintro e w5 ⟨rfl, hr5, hk5⟩
      have hX5 := hX4.only hr5 hk5
      have hSa : Since w5 (w5.alloc (.cells #[.string ⟨a_s.toArray⟩, .string ⟨a_p.toArray⟩, .int .i64 a_n, .bool a_v0, .string ⟨a_l0.toArray⟩, .bool a_v1, .string ⟨a_l1.toArray⟩, .bool a_v2, .string ⟨a_l2.toArray⟩, .bool a_v3, .string ⟨a_l3.toArray⟩] 44)) := (Since.refl _).alloc _
      have hX := hX5.next hSa
      have hH : Cel (w5.alloc (.cells #[.string ⟨a_s.toArray⟩, .string ⟨a_p.toArray⟩, .int .i64 a_n, .bool a_v0, .string ⟨a_l0.toArray⟩, .bool a_v1, .string ⟨a_l1.toArray⟩, .bool a_v2, .string ⟨a_l2.toArray⟩, .bool a_v3, .string ⟨a_l3.toArray⟩] 44)) w5.heap.size #[.string ⟨a_s.toArray⟩, .string ⟨a_p.toArray⟩, .int .i64 a_n, .bool a_v0, .string ⟨a_l0.toArray⟩, .bool a_v1, .string ⟨a_l1.toArray⟩, .bool a_v2, .string ⟨a_l2.toArray⟩, .bool a_v3, .string ⟨a_l3.toArray⟩] 44 := heap_alloc_new _ _
      clear HS2 hX4 hr5 hk5 hX5 hSa
      go_upto_region 9 with (fail)
      obtain ⟨hb, hhb⟩ : ∃ x, Hid (x = w5.heap.size) := ⟨_, rfl⟩
      simp only [← hhb.out]
      rw [← hhb.out] at hH
      clear hhb
      generalize (w5.alloc (.cells #[.string ⟨a_s.toArray⟩, .string ⟨a_p.toArray⟩, .int .i64 a_n, .bool a_v0, .string ⟨a_l0.toArray⟩, .bool a_v1, .string ⟨a_l1.toArray⟩, .bool a_v2, .string ⟨a_l2.toArray⟩, .bool a_v3, .string ⟨a_l3.toArray⟩] 44)) = w6 at *
      have hHg : Hid (¬ hb = g) := by obtain ⟨j, hr⟩ := hX.rd; exact cel_cel_ne hH hr.cel (by decide)
      have hHp : Hid (hb ≠ gp) := cel_cel_ne hH hX.box (by decide)
      obtain ⟨i5, hi5, hz0, hz1, hz2⟩ := info_parts info_ru
      have I5 := Lib.hid (And.intro hi5 (And.intro hz0 (And.intro hz1 hz2)))
      clear hi5 hz0 hz1 hz2
      obtain ⟨va, vc, rfl⟩ := own_slice hX.own.ru.row
      have HRU : Hid (U.length + 1 ≤ 70000) := by show _ ≤ _; have h1 := congrArg List.length hX.own.eU; rw [List.length_map] at h1; have := HRM.out.1; omega

      have hSd : Since w6 w6.drew := (Since.refl _).drew
      replace hX := hX.next hSd
      replace hH := hH.next hSd
      clear hSd
      refine hx_begin (S := fun W => Cel W hb #[.string ⟨a_s.toArray⟩, .string ⟨a_p.toArray⟩, .int .i64 a_n, .bool a_v0, .string ⟨a_l0.toArray⟩, .bool a_v1, .string ⟨a_l1.toArray⟩, .bool a_v2, .string ⟨a_l2.toArray⟩, .bool a_v3, .string ⟨a_l3.toArray⟩] 44) (by kernel_rfl) hH (by kernel_rfl) (fun _ _ _ _ _ h => h) (fun hns hQ => ?_)
      refine hx_take (i := 0) (oi := _) (v := .pointer (some ⟨gp, 0, none⟩)) rfl rfl hns (by kernel_rfl) (by kernel_rfl) hQ (by kernel_rfl) (fun _ _ => by kernel_rfl) hH ?_
      refine hx_take (i := 1) (oi := _) (v := .pointer (some ⟨gp, 0, none⟩)) rfl rfl hns (by kernel_rfl) (by kernel_rfl) hQ (by kernel_rfl) (fun _ _ => by kernel_rfl) hH ?_
      refine hx_take (i := 2) (oi := _) (v := .pointer (some ⟨gp, 0, none⟩)) rfl rfl hns (by kernel_rfl) (by kernel_rfl) hQ (by kernel_rfl) (fun _ _ => by kernel_rfl) hH ?_
      refine hx_take (i := 3) (oi := _) (v := .pointer (some ⟨gp, 5, none⟩)) rfl rfl hns (by kernel_rfl) (by kernel_rfl) hQ (by kernel_rfl) (fun _ _ => by kernel_rfl) hH ?_
      refine hx_take (i := 5) (oi := _) (v := .agg #[.string ⟨a_s.toArray⟩, .string ⟨a_p.toArray⟩, .int .i64 a_n, .bool a_v0, .string ⟨a_l0.toArray⟩, .bool a_v1, .string ⟨a_l1.toArray⟩, .bool a_v2, .string ⟨a_l2.toArray⟩, .bool a_v3, .string ⟨a_l3.toArray⟩]) rfl rfl hns (by kernel_rfl) (by kernel_rfl) hQ (by kernel_rfl) (fun W hW => ld_at rfl (by kernel_rfl) (by kernel_rfl) (by kernel_rfl) W (Cel.at hW)) hH ?_
      refine hx_take (i := 6) (oi := _) (v := .pointer (some ⟨g, 0, none⟩)) rfl rfl hns (by kernel_rfl) (by kernel_rfl) hQ (by kernel_rfl) (fun _ _ => by kernel_rfl) hH ?_
      refine hx_two_vc (i := 4) (j := 7) (.slice va U.length vc) (w6.drew) 79 #[.pointer (some ⟨g, 0, none⟩)] rfl rfl (by kernel_rfl) (by kernel_rfl) (by kernel_rfl) rfl (ld_one rfl (by kernel_rfl) (by kernel_rfl) w6.drew ((hX.box).cell 5)) hH rfl (by kernel_rfl) (HBD.out _ hX.rd) ?_ ?_
      · refine hx_call (i := 7) (oi := _) 79 #[.pointer (some ⟨g, 0, none⟩)] rfl rfl (by kernel_rfl) (by kernel_rfl) (by kernel_rfl) (HBD.out _ hX.rd) ?_
        rintro e wx51 ⟨u, rfl, hu, hr7, hk7⟩
        have hX0 := hX
        obtain ⟨ua, uc, rfl⟩ := own_slice hu
        replace hX := hX.only hr7 hk7
        replace hH := hk7.cel hH hHg.out
        clear hr7 hk7
        refine ⟨_, rfl, hH, ?_⟩
        refine hx_take (i := 8) (oi := _) (v := .agg #[.string ⟨a_s.toArray⟩, .string ⟨a_p.toArray⟩, .int .i64 a_n, .bool a_v0, .string ⟨a_l0.toArray⟩, .bool a_v1, .string ⟨a_l1.toArray⟩, .bool a_v2, .string ⟨a_l2.toArray⟩, .bool a_v3, .string ⟨a_l3.toArray⟩, .slice ua l.length uc]) rfl rfl hns (by kernel_rfl) (by kernel_rfl) hQ (by kernel_rfl) (fun _ _ => by kernel_rfl) hH ?_
        refine hx_make (i := 9) (oi := _) (.slice (some ⟨wx51.heap.size, 0, none⟩) 1 1) (wx51.alloc (.cells #[.string ⟨a_s.toArray⟩, .string ⟨a_p.toArray⟩, .int .i64 a_n, .bool a_v0, .string ⟨a_l0.toArray⟩, .bool a_v1, .string ⟨a_l1.toArray⟩, .bool a_v2, .string ⟨a_l2.toArray⟩, .bool a_v3, .string ⟨a_l3.toArray⟩, .slice ua l.length uc] 47)) rfl rfl (by kernel_rfl) (by kernel_rfl) (by kernel_rfl) (hH.next ((Since.refl _).alloc _)) ?_
        have hSk : Since wx51 (wx51.alloc (.cells #[.string ⟨a_s.toArray⟩, .string ⟨a_p.toArray⟩, .int .i64 a_n, .bool a_v0, .string ⟨a_l0.toArray⟩, .bool a_v1, .string ⟨a_l1.toArray⟩, .bool a_v2, .string ⟨a_l2.toArray⟩, .bool a_v3, .string ⟨a_l3.toArray⟩, .slice ua l.length uc] 47)) := (Since.refl _).alloc _
        replace hX := hX.next hSk
        replace hH := hH.next hSk
        replace hu := own_since hu hSk
        clear hSk
        have hKB : Cel (wx51.alloc (.cells #[.string ⟨a_s.toArray⟩, .string ⟨a_p.toArray⟩, .int .i64 a_n, .bool a_v0, .string ⟨a_l0.toArray⟩, .bool a_v1, .string ⟨a_l1.toArray⟩, .bool a_v2, .string ⟨a_l2.toArray⟩, .bool a_v3, .string ⟨a_l3.toArray⟩, .slice ua l.length uc] 47)) wx51.heap.size #[.string ⟨a_s.toArray⟩, .string ⟨a_p.toArray⟩, .int .i64 a_n, .bool a_v0, .string ⟨a_l0.toArray⟩, .bool a_v1, .string ⟨a_l1.toArray⟩, .bool a_v2, .string ⟨a_l2.toArray⟩, .bool a_v3, .string ⟨a_l3.toArray⟩, .slice ua l.length uc] 47 := heap_alloc_new _ _
        refine hx_append (i := 10) (oi := _) (.tmp 73) (.tmp 78) 26 w0.heap.size 47 i5 (.agg #[.string ByteArray.empty, .string ByteArray.empty, .int .i64 0, .bool false, .string ByteArray.empty, .bool false, .string ByteArray.empty, .bool false, .string ByteArray.empty, .bool false, .string ByteArray.empty, .slice none 0 0]) 12 160 (.slice va U.length vc) U.length _ _ (some ⟨wx51.heap.size, 0, none⟩) 1 1 (#[.string ⟨a_s.toArray⟩, .string ⟨a_p.toArray⟩, .int .i64 a_n, .bool a_v0, .string ⟨a_l0.toArray⟩, .bool a_v1, .string ⟨a_l1.toArray⟩, .bool a_v2, .string ⟨a_l2.toArray⟩, .bool a_v3, .string ⟨a_l3.toArray⟩, .slice ua l.length uc] : Array Value).toList rfl rfl (by kernel_rfl) (by kernel_rfl) rfl Tryz.underlying26 I5.out.1 I5.out.2.1 I5.out.2.2.1 I5.out.2.2.2 rfl (by decide) (by kernel_rfl) hX.own.ru.row (by kernel_rfl) (reads_celR hKB (K := 12) rfl) (by simp [Value.oneCell']) (by have := HRU.out; unfold maxLen; omega) (by have := HRU.out; omega) (hX.sin.size) ?_
        intro v6 w6 hown6 hg6 hat6
        obtain ⟨a6, c6, rfl⟩ := own_slice hown6
        have HFIN := Lib.hid (hX.push_ru (x := (((a_s, a_p, a_n, (a_v0, a_l0), (a_v1, a_l1), (a_v2, a_l2), (a_v3, a_l3)) : Atm), l)) (v6 := .slice a6 (U.length + 1) c6) hX0 hu hown6 hg6 hat6)
        have hBx := cel_own hX.box hX.own.ru.row (by decide) hg6
        replace hH := cel_own hH hX.own.ru.row (by decide) hg6
        clear hown6 hg6 hat6 hX0 hu
        refine ⟨hH, ?_⟩
        refine hx_take (i := 11) (oi := _) (v := .pointer (some ⟨gp, 0, none⟩)) rfl rfl hns (by kernel_rfl) (by kernel_rfl) hQ (by kernel_rfl) (fun _ _ => by kernel_rfl) hH ?_
        refine hx_take (i := 12) (oi := _) (v := .pointer (some ⟨gp, 5, none⟩)) rfl rfl hns (by kernel_rfl) (by kernel_rfl) hQ (by kernel_rfl) (fun _ _ => by kernel_rfl) hH ?_
        refine hx_store (i := 13) (oi := _) (w6.setCell ⟨gp, 5, none⟩ (.slice a6 (U.length + 1) c6)) rfl rfl (by kernel_rfl) (by kernel_rfl) (st_ru rfl (by kernel_rfl) (by kernel_rfl) _ hBx rfl) (hH.far hHp.out _) ?_
        refine wpAnyH_done (by kernel_rfl) ?_ _
        clear hns hQ
        simp only [List.set_cons_zero, List.set_cons_succ]
        clear hX hH hBx hKB I5 i5
        go_wp2_with fail
        go_end0
        exact hgood.out _ _ _ HXR.out ⟨_, _, _, _, _, _, _, _, _, _, HFIN.out⟩
      · rintro e wx51 ⟨u, rfl, hu, hr7, hk7⟩
        have hX0 := hX
        obtain ⟨ua, uc, rfl⟩ := own_slice hu
        replace hX := hX.only hr7 hk7
        replace hH := hk7.cel hH hHg.out
        clear hr7 hk7
        refine ⟨_, rfl, hH, ?_⟩
        refine hx_take (i := 8) (oi := _) (v := .agg #[.string ⟨a_s.toArray⟩, .string ⟨a_p.toArray⟩, .int .i64 a_n, .bool a_v0, .string ⟨a_l0.toArray⟩, .bool a_v1, .string ⟨a_l1.toArray⟩, .bool a_v2, .string ⟨a_l2.toArray⟩, .bool a_v3, .string ⟨a_l3.toArray⟩, .slice ua l.length uc]) rfl rfl hns (by kernel_rfl) (by kernel_rfl) hQ (by kernel_rfl) (fun _ _ => by kernel_rfl) hH ?_
        refine hx_two_vv (i := 4) (j := 9) (.slice va U.length vc) (wx51) (.slice (some ⟨wx51.heap.size, 0, none⟩) 1 1) ((wx51.alloc (.cells #[.string ⟨a_s.toArray⟩, .string ⟨a_p.toArray⟩, .int .i64 a_n, .bool a_v0, .string ⟨a_l0.toArray⟩, .bool a_v1, .string ⟨a_l1.toArray⟩, .bool a_v2, .string ⟨a_l2.toArray⟩, .bool a_v3, .string ⟨a_l3.toArray⟩, .slice ua l.length uc] 47))) rfl rfl (by kernel_rfl) (by kernel_rfl) (by kernel_rfl) rfl (ld_one rfl (by kernel_rfl) (by kernel_rfl) wx51 ((hX.box).cell 5)) hH rfl (by kernel_rfl) (hH.next ((Since.refl _).alloc _)) ?_ ?_
        · refine hx_make (i := 9) (oi := _) (.slice (some ⟨wx51.heap.size, 0, none⟩) 1 1) (wx51.alloc (.cells #[.string ⟨a_s.toArray⟩, .string ⟨a_p.toArray⟩, .int .i64 a_n, .bool a_v0, .string ⟨a_l0.toArray⟩, .bool a_v1, .string ⟨a_l1.toArray⟩, .bool a_v2, .string ⟨a_l2.toArray⟩, .bool a_v3, .string ⟨a_l3.toArray⟩, .slice ua l.length uc] 47)) rfl rfl (by kernel_rfl) (by kernel_rfl) (by kernel_rfl) (hH.next ((Since.refl _).alloc _)) ?_
          have hSk : Since wx51 (wx51.alloc (.cells #[.string ⟨a_s.toArray⟩, .string ⟨a_p.toArray⟩, .int .i64 a_n, .bool a_v0, .string ⟨a_l0.toArray⟩, .bool a_v1, .string ⟨a_l1.toArray⟩, .bool a_v2, .string ⟨a_l2.toArray⟩, .bool a_v3, .string ⟨a_l3.toArray⟩, .slice ua l.length uc] 47)) := (Since.refl _).alloc _
          replace hX := hX.next hSk
          replace hH := hH.next hSk
          replace hu := own_since hu hSk
          clear hSk
          have hKB : Cel (wx51.alloc (.cells #[.string ⟨a_s.toArray⟩, .string ⟨a_p.toArray⟩, .int .i64 a_n, .bool a_v0, .string ⟨a_l0.toArray⟩, .bool a_v1, .string ⟨a_l1.toArray⟩, .bool a_v2, .string ⟨a_l2.toArray⟩, .bool a_v3, .string ⟨a_l3.toArray⟩, .slice ua l.length uc] 47)) wx51.heap.size #[.string ⟨a_s.toArray⟩, .string ⟨a_p.toArray⟩, .int .i64 a_n, .bool a_v0, .string ⟨a_l0.toArray⟩, .bool a_v1, .string ⟨a_l1.toArray⟩, .bool a_v2, .string ⟨a_l2.toArray⟩, .bool a_v3, .string ⟨a_l3.toArray⟩, .slice ua l.length uc] 47 := heap_alloc_new _ _
          refine hx_append (i := 10) (oi := _) (.tmp 73) (.tmp 78) 26 w0.heap.size 47 i5 (.agg #[.string ByteArray.empty, .string ByteArray.empty, .int .i64 0, .bool false, .string ByteArray.empty, .bool false, .string ByteArray.empty, .bool false, .string ByteArray.empty, .bool false, .string ByteArray.empty, .slice none 0 0]) 12 160 (.slice va U.length vc) U.length _ _ (some ⟨wx51.heap.size, 0, none⟩) 1 1 (#[.string ⟨a_s.toArray⟩, .string ⟨a_p.toArray⟩, .int .i64 a_n, .bool a_v0, .string ⟨a_l0.toArray⟩, .bool a_v1, .string ⟨a_l1.toArray⟩, .bool a_v2, .string ⟨a_l2.toArray⟩, .bool a_v3, .string ⟨a_l3.toArray⟩, .slice ua l.length uc] : Array Value).toList rfl rfl (by kernel_rfl) (by kernel_rfl) rfl Tryz.underlying26 I5.out.1 I5.out.2.1 I5.out.2.2.1 I5.out.2.2.2 rfl (by decide) (by kernel_rfl) hX.own.ru.row (by kernel_rfl) (reads_celR hKB (K := 12) rfl) (by simp [Value.oneCell']) (by have := HRU.out; unfold maxLen; omega) (by have := HRU.out; omega) (hX.sin.size) ?_
          intro v6 w6 hown6 hg6 hat6
          obtain ⟨a6, c6, rfl⟩ := own_slice hown6
          have HFIN := Lib.hid (hX.push_ru (x := (((a_s, a_p, a_n, (a_v0, a_l0), (a_v1, a_l1), (a_v2, a_l2), (a_v3, a_l3)) : Atm), l)) (v6 := .slice a6 (U.length + 1) c6) hX0 hu hown6 hg6 hat6)
          have hBx := cel_own hX.box hX.own.ru.row (by decide) hg6
          replace hH := cel_own hH hX.own.ru.row (by decide) hg6
          clear hown6 hg6 hat6 hX0 hu
          refine ⟨hH, ?_⟩
          refine hx_take (i := 11) (oi := _) (v := .pointer (some ⟨gp, 0, none⟩)) rfl rfl hns (by kernel_rfl) (by kernel_rfl) hQ (by kernel_rfl) (fun _ _ => by kernel_rfl) hH ?_
          refine hx_take (i := 12) (oi := _) (v := .pointer (some ⟨gp, 5, none⟩)) rfl rfl hns (by kernel_rfl) (by kernel_rfl) hQ (by kernel_rfl) (fun _ _ => by kernel_rfl) hH ?_
          refine hx_store (i := 13) (oi := _) (w6.setCell ⟨gp, 5, none⟩ (.slice a6 (U.length + 1) c6)) rfl rfl (by kernel_rfl) (by kernel_rfl) (st_ru rfl (by kernel_rfl) (by kernel_rfl) _ hBx rfl) (hH.far hHp.out _) ?_
          refine wpAnyH_done (by kernel_rfl) ?_ _
          clear hns hQ
          simp only [List.set_cons_zero, List.set_cons_succ]
          clear hX hH hBx hKB I5 i5
          go_wp2_with fail
          go_end0
          exact hgood.out _ _ _ HXR.out ⟨_, _, _, _, _, _, _, _, _, _, HFIN.out⟩
        · have hSk : Since wx51 (wx51.alloc (.cells #[.string ⟨a_s.toArray⟩, .string ⟨a_p.toArray⟩, .int .i64 a_n, .bool a_v0, .string ⟨a_l0.toArray⟩, .bool a_v1, .string ⟨a_l1.toArray⟩, .bool a_v2, .string ⟨a_l2.toArray⟩, .bool a_v3, .string ⟨a_l3.toArray⟩, .slice ua l.length uc] 47)) := (Since.refl _).alloc _
          replace hX := hX.next hSk
          replace hH := hH.next hSk
          replace hu := own_since hu hSk
          clear hSk
          have hKB : Cel (wx51.alloc (.cells #[.string ⟨a_s.toArray⟩, .string ⟨a_p.toArray⟩, .int .i64 a_n, .bool a_v0, .string ⟨a_l0.toArray⟩, .bool a_v1, .string ⟨a_l1.toArray⟩, .bool a_v2, .string ⟨a_l2.toArray⟩, .bool a_v3, .string ⟨a_l3.toArray⟩, .slice ua l.length uc] 47)) wx51.heap.size #[.string ⟨a_s.toArray⟩, .string ⟨a_p.toArray⟩, .int .i64 a_n, .bool a_v0, .string ⟨a_l0.toArray⟩, .bool a_v1, .string ⟨a_l1.toArray⟩, .bool a_v2, .string ⟨a_l2.toArray⟩, .bool a_v3, .string ⟨a_l3.toArray⟩, .slice ua l.length uc] 47 := heap_alloc_new _ _
          refine hx_make (i := 4) (oi := _) (.slice va U.length vc) ((wx51.alloc (.cells #[.string ⟨a_s.toArray⟩, .string ⟨a_p.toArray⟩, .int .i64 a_n, .bool a_v0, .string ⟨a_l0.toArray⟩, .bool a_v1, .string ⟨a_l1.toArray⟩, .bool a_v2, .string ⟨a_l2.toArray⟩, .bool a_v3, .string ⟨a_l3.toArray⟩, .slice ua l.length uc] 47))) rfl rfl (by kernel_rfl) (by kernel_rfl) (ld_one rfl (by kernel_rfl) (by kernel_rfl) (wx51.alloc (.cells #[.string ⟨a_s.toArray⟩, .string ⟨a_p.toArray⟩, .int .i64 a_n, .bool a_v0, .string ⟨a_l0.toArray⟩, .bool a_v1, .string ⟨a_l1.toArray⟩, .bool a_v2, .string ⟨a_l2.toArray⟩, .bool a_v3, .string ⟨a_l3.toArray⟩, .slice ua l.length uc] 47)) ((hX.box).cell 5)) hH ?_
          refine hx_append (i := 10) (oi := _) (.tmp 73) (.tmp 78) 26 w0.heap.size 47 i5 (.agg #[.string ByteArray.empty, .string ByteArray.empty, .int .i64 0, .bool false, .string ByteArray.empty, .bool false, .string ByteArray.empty, .bool false, .string ByteArray.empty, .bool false, .string ByteArray.empty, .slice none 0 0]) 12 160 (.slice va U.length vc) U.length _ _ (some ⟨wx51.heap.size, 0, none⟩) 1 1 (#[.string ⟨a_s.toArray⟩, .string ⟨a_p.toArray⟩, .int .i64 a_n, .bool a_v0, .string ⟨a_l0.toArray⟩, .bool a_v1, .string ⟨a_l1.toArray⟩, .bool a_v2, .string ⟨a_l2.toArray⟩, .bool a_v3, .string ⟨a_l3.toArray⟩, .slice ua l.length uc] : Array Value).toList rfl rfl (by kernel_rfl) (by kernel_rfl) rfl Tryz.underlying26 I5.out.1 I5.out.2.1 I5.out.2.2.1 I5.out.2.2.2 rfl (by decide) (by kernel_rfl) hX.own.ru.row (by kernel_rfl) (reads_celR hKB (K := 12) rfl) (by simp [Value.oneCell']) (by have := HRU.out; unfold maxLen; omega) (by have := HRU.out; omega) (hX.sin.size) ?_
          intro v6 w6 hown6 hg6 hat6
          obtain ⟨a6, c6, rfl⟩ := own_slice hown6
          have HFIN := Lib.hid (hX.push_ru (x := (((a_s, a_p, a_n, (a_v0, a_l0), (a_v1, a_l1), (a_v2, a_l2), (a_v3, a_l3)) : Atm), l)) (v6 := .slice a6 (U.length + 1) c6) hX0 hu hown6 hg6 hat6)
          have hBx := cel_own hX.box hX.own.ru.row (by decide) hg6
          replace hH := cel_own hH hX.own.ru.row (by decide) hg6
          clear hown6 hg6 hat6 hX0 hu
          refine ⟨hH, ?_⟩
          refine hx_take (i := 11) (oi := _) (v := .pointer (some ⟨gp, 0, none⟩)) rfl rfl hns (by kernel_rfl) (by kernel_rfl) hQ (by kernel_rfl) (fun _ _ => by kernel_rfl) hH ?_
          refine hx_take (i := 12) (oi := _) (v := .pointer (some ⟨gp, 5, none⟩)) rfl rfl hns (by kernel_rfl) (by kernel_rfl) hQ (by kernel_rfl) (fun _ _ => by kernel_rfl) hH ?_
          refine hx_store (i := 13) (oi := _) (w6.setCell ⟨gp, 5, none⟩ (.slice a6 (U.length + 1) c6)) rfl rfl (by kernel_rfl) (by kernel_rfl) (st_ru rfl (by kernel_rfl) (by kernel_rfl) _ hBx rfl) (hH.far hHp.out _) ?_
          refine wpAnyH_done (by kernel_rfl) ?_ _
          clear hns hQ
          simp only [List.set_cons_zero, List.set_cons_succ]
          clear hX hH hBx hKB I5 i5
          go_wp2_with fail
          go_end0
          exact hgood.out _ _ _ HXR.out ⟨_, _, _, _, _, _, _, _, _, _, HFIN.out⟩
    | cons t rr =>
      have hh := congrArg List.length hd
      rw [List.length_drop, List.length_cons] at hh
      have hi : i1 < L.length := by rw [hi1.out]; omega
      have h1 : (i1 : Int) < (L.length : Int) := by omega
      obtain ⟨h3, p, hp⟩ := hr3.ok _ rfl
      have hrow := own_tkrow hr3.row
      rw [hlv] at hrow
      obtain ⟨b, o, rfl, hc, hat⟩ := hrow.get (by omega)
      have htl : (L[i1]).2.1 = t := by
        have := txt_of hp 1
        rw [← h3, ← hi1.out] at this
        unfold txtI at this
        rw [List.getElem?_eq_getElem hi, hd] at this
        exact this
      have k1 := (hat i1 hi).2.1
      rw [htl] at k1
      have hL0 : At w3 g 0 #[.slice (some ⟨b, o, none⟩) L.length lc] := At.one (by rw [← hlv]; exact hr3.cel.cell 0)
      have hT : At w3 b (o + i1 * 3 + 1) #[.string ⟨t.toArray⟩] := At.one k1
      have hsc : secS wCansay (.ok r) = decide (t = wCansay) := by show isT wCansay (r.drop 1) = _; rw [hd]; rfl
      cases hdt : decide (t = wCansay) with
      | false =>
        have hcmp : (t == wCansay) = false := by simpa using of_decide_eq_false hdt
        have hsec : secS wCansay (.ok r) = false := hsc.trans hdt
        clear hr3 hs1 hs2 hd hi1 hh h3 hp hat htl k1 hsc hdt hc hrow
        go_upto_region 2 with (fail)
        have hs0 : Since w3 w3.drew := (Since.refl _).drew
        refine hx_begin (S := fun W => Since w3 W) (by kernel_rfl) hs0 (by kernel_rfl) (fun _ _ _ _ _ h => h) (fun hns hQ => ?_)
        refine hx_take (i := 0) (oi := _) (v := .pointer (some ⟨g, 0, none⟩)) rfl rfl hns (by kernel_rfl) (by kernel_rfl) hQ (by kernel_rfl) (fun _ _ => by kernel_rfl) hs0 ?_
        refine hx_take (i := 1) (oi := _) (v := .pointer (some ⟨g, 0, none⟩)) rfl rfl hns (by kernel_rfl) (by kernel_rfl) hQ (by kernel_rfl) (fun _ _ => by kernel_rfl) hs0 ?_
        refine hx_take (i := 2) (oi := _) (v := .pointer (some ⟨g, 4, none⟩)) rfl rfl hns (by kernel_rfl) (by kernel_rfl) hQ (by kernel_rfl) (fun _ _ => by kernel_rfl) hs0 ?_
        refine hx_take (i := 3) (oi := _) (v := .int .i64 0) rfl rfl hns (by kernel_rfl) (by kernel_rfl) hQ (by kernel_rfl) (fun W hW => ld_one rfl (by kernel_rfl) (by kernel_rfl) W (hE4.next hW 0 _ rfl)) hs0 ?_
        refine hx_take (i := 4) (oi := _) (v := .bool true) rfl rfl hns (by kernel_rfl) (by kernel_rfl) hQ (by kernel_rfl) (fun W _ => eqs_intE (s := 0) rfl (by kernel_rfl) (by kernel_rfl) W) hs0 ?_
        refine hx_take (i := 5) (oi := _) (v := .bool true) rfl rfl hns (by kernel_rfl) (by kernel_rfl) hQ (by kernel_rfl) (fun _ _ => by kernel_rfl) hs0 ?_
        refine hx_take (i := 6) (oi := _) (v := .pointer (some ⟨g, 0, none⟩)) rfl rfl hns (by kernel_rfl) (by kernel_rfl) hQ (by kernel_rfl) (fun _ _ => by kernel_rfl) hs0 ?_
        refine hx_take (i := 7) (oi := _) (v := .pointer (some ⟨g, 0, none⟩)) rfl rfl hns (by kernel_rfl) (by kernel_rfl) hQ (by kernel_rfl) (fun _ _ => by kernel_rfl) hs0 ?_
        refine hx_take (i := 8) (oi := _) (v := .pointer (some ⟨g, 1, none⟩)) rfl rfl hns (by kernel_rfl) (by kernel_rfl) hQ (by kernel_rfl) (fun _ _ => by kernel_rfl) hs0 ?_
        refine hx_take (i := 9) (oi := _) (v := .int .i64 (i : Int)) rfl rfl hns (by kernel_rfl) (by kernel_rfl) hQ (by kernel_rfl) (fun W hW => ld_one rfl (by kernel_rfl) (by kernel_rfl) W (hI1.next hW 0 _ rfl)) hs0 ?_
        refine hx_take (i := 10) (oi := _) (v := .int .i64 (i1 : Int)) rfl rfl hns (by kernel_rfl) (by kernel_rfl) hQ (by kernel_rfl) (fun W _ => addP_int rfl (by kernel_rfl) (by kernel_rfl) hw1 W) hs0 ?_
        refine hx_take (i := 11) (oi := _) (v := .pointer (some ⟨g, 0, none⟩)) rfl rfl hns (by kernel_rfl) (by kernel_rfl) hQ (by kernel_rfl) (fun _ _ => by kernel_rfl) hs0 ?_
        refine hx_take (i := 12) (oi := _) (v := .pointer (some ⟨g, 0, none⟩)) rfl rfl hns (by kernel_rfl) (by kernel_rfl) hQ (by kernel_rfl) (fun _ _ => by kernel_rfl) hs0 ?_
        refine hx_take (i := 13) (oi := _) (v := .pointer (some ⟨g, 0, none⟩)) rfl rfl hns (by kernel_rfl) (by kernel_rfl) hQ (by kernel_rfl) (fun _ _ => by kernel_rfl) hs0 ?_
        refine hx_take (i := 14) (oi := _) (v := .slice (some ⟨b, o, none⟩) L.length lc) rfl rfl hns (by kernel_rfl) (by kernel_rfl) hQ (by kernel_rfl) (fun W hW => ld_one rfl (by kernel_rfl) (by kernel_rfl) W (hL0.next hW 0 _ rfl)) hs0 ?_
        refine hx_take (i := 15) (oi := _) (v := .int .i64 (L.length : Int)) rfl rfl hns (by kernel_rfl) (by kernel_rfl) hQ (by kernel_rfl) (fun _ _ => by kernel_rfl) hs0 ?_
        refine hx_take (i := 16) (oi := _) (v := .bool true) rfl rfl hns (by kernel_rfl) (by kernel_rfl) hQ (by kernel_rfl) (fun W _ => lssP_yes rfl (by kernel_rfl) (by kernel_rfl) h1 W) hs0 ?_
        refine hx_take (i := 17) (oi := _) (v := .bool true) rfl rfl hns (by kernel_rfl) (by kernel_rfl) hQ (by kernel_rfl) (fun _ _ => by kernel_rfl) hs0 ?_
        refine hx_take (i := 18) (oi := _) (v := .bool true) rfl rfl hns (by kernel_rfl) (by kernel_rfl) hQ (by kernel_rfl) (fun _ _ => by kernel_rfl) hs0 ?_
        refine hx_take (i := 19) (oi := _) (v := .pointer (some ⟨g, 0, none⟩)) rfl rfl hns (by kernel_rfl) (by kernel_rfl) hQ (by kernel_rfl) (fun _ _ => by kernel_rfl) hs0 ?_
        refine hx_take (i := 20) (oi := _) (v := .pointer (some ⟨g, 0, none⟩)) rfl rfl hns (by kernel_rfl) (by kernel_rfl) hQ (by kernel_rfl) (fun _ _ => by kernel_rfl) hs0 ?_
        refine hx_take (i := 21) (oi := _) (v := .pointer (some ⟨g, 0, none⟩)) rfl rfl hns (by kernel_rfl) (by kernel_rfl) hQ (by kernel_rfl) (fun _ _ => by kernel_rfl) hs0 ?_
        refine hx_take (i := 22) (oi := _) (v := .slice (some ⟨b, o, none⟩) L.length lc) rfl rfl hns (by kernel_rfl) (by kernel_rfl) hQ (by kernel_rfl) (fun W hW => ld_one rfl (by kernel_rfl) (by kernel_rfl) W (hL0.next hW 0 _ rfl)) hs0 ?_
        refine hx_take (i := 23) (oi := _) (v := .pointer (some ⟨g, 0, none⟩)) rfl rfl hns (by kernel_rfl) (by kernel_rfl) hQ (by kernel_rfl) (fun _ _ => by kernel_rfl) hs0 ?_
        refine hx_take (i := 24) (oi := _) (v := .pointer (some ⟨g, 0, none⟩)) rfl rfl hns (by kernel_rfl) (by kernel_rfl) hQ (by kernel_rfl) (fun _ _ => by kernel_rfl) hs0 ?_
        refine hx_take (i := 25) (oi := _) (v := .pointer (some ⟨g, 1, none⟩)) rfl rfl hns (by kernel_rfl) (by kernel_rfl) hQ (by kernel_rfl) (fun _ _ => by kernel_rfl) hs0 ?_
        refine hx_take (i := 26) (oi := _) (v := .int .i64 (i : Int)) rfl rfl hns (by kernel_rfl) (by kernel_rfl) hQ (by kernel_rfl) (fun W hW => ld_one rfl (by kernel_rfl) (by kernel_rfl) W (hI1.next hW 0 _ rfl)) hs0 ?_
        refine hx_take (i := 27) (oi := _) (v := .int .i64 (i1 : Int)) rfl rfl hns (by kernel_rfl) (by kernel_rfl) hQ (by kernel_rfl) (fun W _ => addP_int rfl (by kernel_rfl) (by kernel_rfl) hw1 W) hs0 ?_
        refine hx_take (i := 28) (oi := _) (v := .pointer (some ⟨b, o + i1 * 3, none⟩)) rfl rfl hns (by kernel_rfl) (by kernel_rfl) hQ (by kernel_rfl) (fun W _ => ix_sl (n := L.length) (c := lc) (K := 3) rfl (by kernel_rfl) (by kernel_rfl) (by kernel_rfl) rfl hi W) hs0 ?_
        refine hx_take (i := 29) (oi := _) (v := .pointer (some ⟨b, o + i1 * 3 + 1, none⟩)) rfl rfl hns (by kernel_rfl) (by kernel_rfl) hQ (by kernel_rfl) (fun _ _ => by kernel_rfl) hs0 ?_
        refine hx_take (i := 30) (oi := _) (v := .string ⟨t.toArray⟩) rfl rfl hns (by kernel_rfl) (by kernel_rfl) hQ (by kernel_rfl) (fun W hW => ld_one rfl (by kernel_rfl) (by kernel_rfl) W (hT.next hW 0 _ rfl)) hs0 ?_
        refine hx_take (i := 31) (oi := _) (v := .bool false) rfl rfl hns (by kernel_rfl) (by kernel_rfl) hQ (by kernel_rfl) (fun W _ => eqT_is rfl (by kernel_rfl) (by kernel_rfl) hcmp W) hs0 ?_
        refine hx_take (i := 32) (oi := _) (v := .bool false) rfl rfl hns (by kernel_rfl) (by kernel_rfl) hQ (by kernel_rfl) (fun _ _ => by kernel_rfl) hs0 ?_
        refine wpAnyH_done (by kernel_rfl) ?_ _
        clear hns hQ
        simp only [List.set_cons_zero, List.set_cons_succ]
        have HXR0 : Hid (X = ({ P with ru := P.ru ++ [((saidX who (.ok r)).1, (bodyX (saidX who (.ok r)).2).1)] }, (bodyX (saidX who (.ok r)).2).2)) := by show _ = _; rw [hX.out, if_neg (by rw [hsec]; decide)]
        have hX4 := hX3.next hs0
        obtain ⟨j4, hr4⟩ := hX4.rd
        have HS := Lib.hid (rsaid10_any who HF.out hr4)
        obtain ⟨⟨⟨a_s, a_p, a_n, ⟨a_v0, a_l0⟩, ⟨a_v1, a_l1⟩, ⟨a_v2, a_l2⟩, ⟨a_v3, a_l3⟩⟩, q5⟩, hq5⟩ : ∃ x, Hid (x = saidX who (.ok r)) := ⟨_, rfl⟩
        rw [← hq5.out] at HS HXR0
        simp only at HXR0
        obtain ⟨⟨l, q6⟩, hq6⟩ : ∃ x, Hid (x = bodyX q5) := ⟨_, rfl⟩
        have HBD : Hid (∀ W, (∃ j, Rdr W g lv L n q5 j) → Calls Tryz.prog 79 #[.pointer (some ⟨g, 0, none⟩)] W fun e w' => ∃ v, e = .returned v ∧ w'.ownsRow W.heap.size 44 11 v l.length (l.flatMap atmL) ∧ (∃ j, Rdr w' g lv L n q6 j) ∧ OnlyG g W w') := fun W h => by
          obtain ⟨j, h⟩ := h
          have hh := rbody10_any HF.out h
          rw [← hq6.out] at hh
          exact hh
        rw [← hq6.out] at HXR0
        have HXR : Hid (X = ({ P with ru := P.ru ++ [(((a_s, a_p, a_n, (a_v0, a_l0), (a_v1, a_l1), (a_v2, a_l2), (a_v3, a_l3)) : Atm), l)] }, q6)) := HXR0.out
        have HS2 : Hid (Calls Tryz.prog 78 #[.pointer (some ⟨g, 0, none⟩), .string ⟨who.toArray⟩] w3.drew fun e w' => e = .returned (.agg #[.string ⟨a_s.toArray⟩, .string ⟨a_p.toArray⟩, .int .i64 a_n, .bool a_v0, .string ⟨a_l0.toArray⟩, .bool a_v1, .string ⟨a_l1.toArray⟩, .bool a_v2, .string ⟨a_l2.toArray⟩, .bool a_v3, .string ⟨a_l3.toArray⟩]) ∧ (∃ j, Rdr w' g lv L n q5 j) ∧ OnlyG g w3.drew w') := HS.out
        clear hX hsec hX3 hr4 HS hq5 hq6 HXR0 hs0 hE4 hI1 hL0 hT hw1 h1 hi hcmp hlv
        go_wp2_with fail
        refine HS2.out.mono ?_
        rintro e w5 ⟨rfl, hr5, hk5⟩
        have hX5 := hX4.only hr5 hk5
        have hSa : Since w5 (w5.alloc (.cells #[.string ⟨a_s.toArray⟩, .string ⟨a_p.toArray⟩, .int .i64 a_n, .bool a_v0, .string ⟨a_l0.toArray⟩, .bool a_v1, .string ⟨a_l1.toArray⟩, .bool a_v2, .string ⟨a_l2.toArray⟩, .bool a_v3, .string ⟨a_l3.toArray⟩] 44)) := (Since.refl _).alloc _
        have hX := hX5.next hSa
        have hH : Cel (w5.alloc (.cells #[.string ⟨a_s.toArray⟩, .string ⟨a_p.toArray⟩, .int .i64 a_n, .bool a_v0, .string ⟨a_l0.toArray⟩, .bool a_v1, .string ⟨a_l1.toArray⟩, .bool a_v2, .string ⟨a_l2.toArray⟩, .bool a_v3, .string ⟨a_l3.toArray⟩] 44)) w5.heap.size #[.string ⟨a_s.toArray⟩, .string ⟨a_p.toArray⟩, .int .i64 a_n, .bool a_v0, .string ⟨a_l0.toArray⟩, .bool a_v1, .string ⟨a_l1.toArray⟩, .bool a_v2, .string ⟨a_l2.toArray⟩, .bool a_v3, .string ⟨a_l3.toArray⟩] 44 := heap_alloc_new _ _
        clear HS2 hX4 hr5 hk5 hX5 hSa
        go_upto_region 9 with (fail)
        obtain ⟨hb, hhb⟩ : ∃ x, Hid (x = w5.heap.size) := ⟨_, rfl⟩
        simp only [← hhb.out]
        rw [← hhb.out] at hH
        clear hhb
        generalize (w5.alloc (.cells #[.string ⟨a_s.toArray⟩, .string ⟨a_p.toArray⟩, .int .i64 a_n, .bool a_v0, .string ⟨a_l0.toArray⟩, .bool a_v1, .string ⟨a_l1.toArray⟩, .bool a_v2, .string ⟨a_l2.toArray⟩, .bool a_v3, .string ⟨a_l3.toArray⟩] 44)) = w6 at *
        have hHg : Hid (¬ hb = g) := by obtain ⟨j, hr⟩ := hX.rd; exact cel_cel_ne hH hr.cel (by decide)
        have hHp : Hid (hb ≠ gp) := cel_cel_ne hH hX.box (by decide)
        obtain ⟨i5, hi5, hz0, hz1, hz2⟩ := info_parts info_ru
        have I5 := Lib.hid (And.intro hi5 (And.intro hz0 (And.intro hz1 hz2)))
        clear hi5 hz0 hz1 hz2
        obtain ⟨va, vc, rfl⟩ := own_slice hX.own.ru.row
        have HRU : Hid (U.length + 1 ≤ 70000) := by show _ ≤ _; have h1 := congrArg List.length hX.own.eU; rw [List.length_map] at h1; have := HRM.out.1; omega

        have hSd : Since w6 w6.drew := (Since.refl _).drew
        replace hX := hX.next hSd
        replace hH := hH.next hSd
        clear hSd
        refine hx_begin (S := fun W => Cel W hb #[.string ⟨a_s.toArray⟩, .string ⟨a_p.toArray⟩, .int .i64 a_n, .bool a_v0, .string ⟨a_l0.toArray⟩, .bool a_v1, .string ⟨a_l1.toArray⟩, .bool a_v2, .string ⟨a_l2.toArray⟩, .bool a_v3, .string ⟨a_l3.toArray⟩] 44) (by kernel_rfl) hH (by kernel_rfl) (fun _ _ _ _ _ h => h) (fun hns hQ => ?_)
        refine hx_take (i := 0) (oi := _) (v := .pointer (some ⟨gp, 0, none⟩)) rfl rfl hns (by kernel_rfl) (by kernel_rfl) hQ (by kernel_rfl) (fun _ _ => by kernel_rfl) hH ?_
        refine hx_take (i := 1) (oi := _) (v := .pointer (some ⟨gp, 0, none⟩)) rfl rfl hns (by kernel_rfl) (by kernel_rfl) hQ (by kernel_rfl) (fun _ _ => by kernel_rfl) hH ?_
        refine hx_take (i := 2) (oi := _) (v := .pointer (some ⟨gp, 0, none⟩)) rfl rfl hns (by kernel_rfl) (by kernel_rfl) hQ (by kernel_rfl) (fun _ _ => by kernel_rfl) hH ?_
        refine hx_take (i := 3) (oi := _) (v := .pointer (some ⟨gp, 5, none⟩)) rfl rfl hns (by kernel_rfl) (by kernel_rfl) hQ (by kernel_rfl) (fun _ _ => by kernel_rfl) hH ?_
        refine hx_take (i := 5) (oi := _) (v := .agg #[.string ⟨a_s.toArray⟩, .string ⟨a_p.toArray⟩, .int .i64 a_n, .bool a_v0, .string ⟨a_l0.toArray⟩, .bool a_v1, .string ⟨a_l1.toArray⟩, .bool a_v2, .string ⟨a_l2.toArray⟩, .bool a_v3, .string ⟨a_l3.toArray⟩]) rfl rfl hns (by kernel_rfl) (by kernel_rfl) hQ (by kernel_rfl) (fun W hW => ld_at rfl (by kernel_rfl) (by kernel_rfl) (by kernel_rfl) W (Cel.at hW)) hH ?_
        refine hx_take (i := 6) (oi := _) (v := .pointer (some ⟨g, 0, none⟩)) rfl rfl hns (by kernel_rfl) (by kernel_rfl) hQ (by kernel_rfl) (fun _ _ => by kernel_rfl) hH ?_
        refine hx_two_vc (i := 4) (j := 7) (.slice va U.length vc) (w6.drew) 79 #[.pointer (some ⟨g, 0, none⟩)] rfl rfl (by kernel_rfl) (by kernel_rfl) (by kernel_rfl) rfl (ld_one rfl (by kernel_rfl) (by kernel_rfl) w6.drew ((hX.box).cell 5)) hH rfl (by kernel_rfl) (HBD.out _ hX.rd) ?_ ?_
        · refine hx_call (i := 7) (oi := _) 79 #[.pointer (some ⟨g, 0, none⟩)] rfl rfl (by kernel_rfl) (by kernel_rfl) (by kernel_rfl) (HBD.out _ hX.rd) ?_
          rintro e wx51 ⟨u, rfl, hu, hr7, hk7⟩
          have hX0 := hX
          obtain ⟨ua, uc, rfl⟩ := own_slice hu
          replace hX := hX.only hr7 hk7
          replace hH := hk7.cel hH hHg.out
          clear hr7 hk7
          refine ⟨_, rfl, hH, ?_⟩
          refine hx_take (i := 8) (oi := _) (v := .agg #[.string ⟨a_s.toArray⟩, .string ⟨a_p.toArray⟩, .int .i64 a_n, .bool a_v0, .string ⟨a_l0.toArray⟩, .bool a_v1, .string ⟨a_l1.toArray⟩, .bool a_v2, .string ⟨a_l2.toArray⟩, .bool a_v3, .string ⟨a_l3.toArray⟩, .slice ua l.length uc]) rfl rfl hns (by kernel_rfl) (by kernel_rfl) hQ (by kernel_rfl) (fun _ _ => by kernel_rfl) hH ?_
          refine hx_make (i := 9) (oi := _) (.slice (some ⟨wx51.heap.size, 0, none⟩) 1 1) (wx51.alloc (.cells #[.string ⟨a_s.toArray⟩, .string ⟨a_p.toArray⟩, .int .i64 a_n, .bool a_v0, .string ⟨a_l0.toArray⟩, .bool a_v1, .string ⟨a_l1.toArray⟩, .bool a_v2, .string ⟨a_l2.toArray⟩, .bool a_v3, .string ⟨a_l3.toArray⟩, .slice ua l.length uc] 47)) rfl rfl (by kernel_rfl) (by kernel_rfl) (by kernel_rfl) (hH.next ((Since.refl _).alloc _)) ?_
          have hSk : Since wx51 (wx51.alloc (.cells #[.string ⟨a_s.toArray⟩, .string ⟨a_p.toArray⟩, .int .i64 a_n, .bool a_v0, .string ⟨a_l0.toArray⟩, .bool a_v1, .string ⟨a_l1.toArray⟩, .bool a_v2, .string ⟨a_l2.toArray⟩, .bool a_v3, .string ⟨a_l3.toArray⟩, .slice ua l.length uc] 47)) := (Since.refl _).alloc _
          replace hX := hX.next hSk
          replace hH := hH.next hSk
          replace hu := own_since hu hSk
          clear hSk
          have hKB : Cel (wx51.alloc (.cells #[.string ⟨a_s.toArray⟩, .string ⟨a_p.toArray⟩, .int .i64 a_n, .bool a_v0, .string ⟨a_l0.toArray⟩, .bool a_v1, .string ⟨a_l1.toArray⟩, .bool a_v2, .string ⟨a_l2.toArray⟩, .bool a_v3, .string ⟨a_l3.toArray⟩, .slice ua l.length uc] 47)) wx51.heap.size #[.string ⟨a_s.toArray⟩, .string ⟨a_p.toArray⟩, .int .i64 a_n, .bool a_v0, .string ⟨a_l0.toArray⟩, .bool a_v1, .string ⟨a_l1.toArray⟩, .bool a_v2, .string ⟨a_l2.toArray⟩, .bool a_v3, .string ⟨a_l3.toArray⟩, .slice ua l.length uc] 47 := heap_alloc_new _ _
          refine hx_append (i := 10) (oi := _) (.tmp 73) (.tmp 78) 26 w0.heap.size 47 i5 (.agg #[.string ByteArray.empty, .string ByteArray.empty, .int .i64 0, .bool false, .string ByteArray.empty, .bool false, .string ByteArray.empty, .bool false, .string ByteArray.empty, .bool false, .string ByteArray.empty, .slice none 0 0]) 12 160 (.slice va U.length vc) U.length _ _ (some ⟨wx51.heap.size, 0, none⟩) 1 1 (#[.string ⟨a_s.toArray⟩, .string ⟨a_p.toArray⟩, .int .i64 a_n, .bool a_v0, .string ⟨a_l0.toArray⟩, .bool a_v1, .string ⟨a_l1.toArray⟩, .bool a_v2, .string ⟨a_l2.toArray⟩, .bool a_v3, .string ⟨a_l3.toArray⟩, .slice ua l.length uc] : Array Value).toList rfl rfl (by kernel_rfl) (by kernel_rfl) rfl Tryz.underlying26 I5.out.1 I5.out.2.1 I5.out.2.2.1 I5.out.2.2.2 rfl (by decide) (by kernel_rfl) hX.own.ru.row (by kernel_rfl) (reads_celR hKB (K := 12) rfl) (by simp [Value.oneCell']) (by have := HRU.out; unfold maxLen; omega) (by have := HRU.out; omega) (hX.sin.size) ?_
          intro v6 w6 hown6 hg6 hat6
          obtain ⟨a6, c6, rfl⟩ := own_slice hown6
          have HFIN := Lib.hid (hX.push_ru (x := (((a_s, a_p, a_n, (a_v0, a_l0), (a_v1, a_l1), (a_v2, a_l2), (a_v3, a_l3)) : Atm), l)) (v6 := .slice a6 (U.length + 1) c6) hX0 hu hown6 hg6 hat6)
          have hBx := cel_own hX.box hX.own.ru.row (by decide) hg6
          replace hH := cel_own hH hX.own.ru.row (by decide) hg6
          clear hown6 hg6 hat6 hX0 hu
          refine ⟨hH, ?_⟩
          refine hx_take (i := 11) (oi := _) (v := .pointer (some ⟨gp, 0, none⟩)) rfl rfl hns (by kernel_rfl) (by kernel_rfl) hQ (by kernel_rfl) (fun _ _ => by kernel_rfl) hH ?_
          refine hx_take (i := 12) (oi := _) (v := .pointer (some ⟨gp, 5, none⟩)) rfl rfl hns (by kernel_rfl) (by kernel_rfl) hQ (by kernel_rfl) (fun _ _ => by kernel_rfl) hH ?_
          refine hx_store (i := 13) (oi := _) (w6.setCell ⟨gp, 5, none⟩ (.slice a6 (U.length + 1) c6)) rfl rfl (by kernel_rfl) (by kernel_rfl) (st_ru rfl (by kernel_rfl) (by kernel_rfl) _ hBx rfl) (hH.far hHp.out _) ?_
          refine wpAnyH_done (by kernel_rfl) ?_ _
          clear hns hQ
          simp only [List.set_cons_zero, List.set_cons_succ]
          clear hX hH hBx hKB I5 i5
          go_wp2_with fail
          go_end0
          exact hgood.out _ _ _ HXR.out ⟨_, _, _, _, _, _, _, _, _, _, HFIN.out⟩
        · rintro e wx51 ⟨u, rfl, hu, hr7, hk7⟩
          have hX0 := hX
          obtain ⟨ua, uc, rfl⟩ := own_slice hu
          replace hX := hX.only hr7 hk7
          replace hH := hk7.cel hH hHg.out
          clear hr7 hk7
          refine ⟨_, rfl, hH, ?_⟩
          refine hx_take (i := 8) (oi := _) (v := .agg #[.string ⟨a_s.toArray⟩, .string ⟨a_p.toArray⟩, .int .i64 a_n, .bool a_v0, .string ⟨a_l0.toArray⟩, .bool a_v1, .string ⟨a_l1.toArray⟩, .bool a_v2, .string ⟨a_l2.toArray⟩, .bool a_v3, .string ⟨a_l3.toArray⟩, .slice ua l.length uc]) rfl rfl hns (by kernel_rfl) (by kernel_rfl) hQ (by kernel_rfl) (fun _ _ => by kernel_rfl) hH ?_
          refine hx_two_vv (i := 4) (j := 9) (.slice va U.length vc) (wx51) (.slice (some ⟨wx51.heap.size, 0, none⟩) 1 1) ((wx51.alloc (.cells #[.string ⟨a_s.toArray⟩, .string ⟨a_p.toArray⟩, .int .i64 a_n, .bool a_v0, .string ⟨a_l0.toArray⟩, .bool a_v1, .string ⟨a_l1.toArray⟩, .bool a_v2, .string ⟨a_l2.toArray⟩, .bool a_v3, .string ⟨a_l3.toArray⟩, .slice ua l.length uc] 47))) rfl rfl (by kernel_rfl) (by kernel_rfl) (by kernel_rfl) rfl (ld_one rfl (by kernel_rfl) (by kernel_rfl) wx51 ((hX.box).cell 5)) hH rfl (by kernel_rfl) (hH.next ((Since.refl _).alloc _)) ?_ ?_
          · refine hx_make (i := 9) (oi := _) (.slice (some ⟨wx51.heap.size, 0, none⟩) 1 1) (wx51.alloc (.cells #[.string ⟨a_s.toArray⟩, .string ⟨a_p.toArray⟩, .int .i64 a_n, .bool a_v0, .string ⟨a_l0.toArray⟩, .bool a_v1, .string ⟨a_l1.toArray⟩, .bool a_v2, .string ⟨a_l2.toArray⟩, .bool a_v3, .string ⟨a_l3.toArray⟩, .slice ua l.length uc] 47)) rfl rfl (by kernel_rfl) (by kernel_rfl) (by kernel_rfl) (hH.next ((Since.refl _).alloc _)) ?_
            have hSk : Since wx51 (wx51.alloc (.cells #[.string ⟨a_s.toArray⟩, .string ⟨a_p.toArray⟩, .int .i64 a_n, .bool a_v0, .string ⟨a_l0.toArray⟩, .bool a_v1, .string ⟨a_l1.toArray⟩, .bool a_v2, .string ⟨a_l2.toArray⟩, .bool a_v3, .string ⟨a_l3.toArray⟩, .slice ua l.length uc] 47)) := (Since.refl _).alloc _
            replace hX := hX.next hSk
            replace hH := hH.next hSk
            replace hu := own_since hu hSk
            clear hSk
            have hKB : Cel (wx51.alloc (.cells #[.string ⟨a_s.toArray⟩, .string ⟨a_p.toArray⟩, .int .i64 a_n, .bool a_v0, .string ⟨a_l0.toArray⟩, .bool a_v1, .string ⟨a_l1.toArray⟩, .bool a_v2, .string ⟨a_l2.toArray⟩, .bool a_v3, .string ⟨a_l3.toArray⟩, .slice ua l.length uc] 47)) wx51.heap.size #[.string ⟨a_s.toArray⟩, .string ⟨a_p.toArray⟩, .int .i64 a_n, .bool a_v0, .string ⟨a_l0.toArray⟩, .bool a_v1, .string ⟨a_l1.toArray⟩, .bool a_v2, .string ⟨a_l2.toArray⟩, .bool a_v3, .string ⟨a_l3.toArray⟩, .slice ua l.length uc] 47 := heap_alloc_new _ _
            refine hx_append (i := 10) (oi := _) (.tmp 73) (.tmp 78) 26 w0.heap.size 47 i5 (.agg #[.string ByteArray.empty, .string ByteArray.empty, .int .i64 0, .bool false, .string ByteArray.empty, .bool false, .string ByteArray.empty, .bool false, .string ByteArray.empty, .bool false, .string ByteArray.empty, .slice none 0 0]) 12 160 (.slice va U.length vc) U.length _ _ (some ⟨wx51.heap.size, 0, none⟩) 1 1 (#[.string ⟨a_s.toArray⟩, .string ⟨a_p.toArray⟩, .int .i64 a_n, .bool a_v0, .string ⟨a_l0.toArray⟩, .bool a_v1, .string ⟨a_l1.toArray⟩, .bool a_v2, .string ⟨a_l2.toArray⟩, .bool a_v3, .string ⟨a_l3.toArray⟩, .slice ua l.length uc] : Array Value).toList rfl rfl (by kernel_rfl) (by kernel_rfl) rfl Tryz.underlying26 I5.out.1 I5.out.2.1 I5.out.2.2.1 I5.out.2.2.2 rfl (by decide) (by kernel_rfl) hX.own.ru.row (by kernel_rfl) (reads_celR hKB (K := 12) rfl) (by simp [Value.oneCell']) (by have := HRU.out; unfold maxLen; omega) (by have := HRU.out; omega) (hX.sin.size) ?_
            intro v6 w6 hown6 hg6 hat6
            obtain ⟨a6, c6, rfl⟩ := own_slice hown6
            have HFIN := Lib.hid (hX.push_ru (x := (((a_s, a_p, a_n, (a_v0, a_l0), (a_v1, a_l1), (a_v2, a_l2), (a_v3, a_l3)) : Atm), l)) (v6 := .slice a6 (U.length + 1) c6) hX0 hu hown6 hg6 hat6)
            have hBx := cel_own hX.box hX.own.ru.row (by decide) hg6
            replace hH := cel_own hH hX.own.ru.row (by decide) hg6
            clear hown6 hg6 hat6 hX0 hu
            refine ⟨hH, ?_⟩
            refine hx_take (i := 11) (oi := _) (v := .pointer (some ⟨gp, 0, none⟩)) rfl rfl hns (by kernel_rfl) (by kernel_rfl) hQ (by kernel_rfl) (fun _ _ => by kernel_rfl) hH ?_
            refine hx_take (i := 12) (oi := _) (v := .pointer (some ⟨gp, 5, none⟩)) rfl rfl hns (by kernel_rfl) (by kernel_rfl) hQ (by kernel_rfl) (fun _ _ => by kernel_rfl) hH ?_
            refine hx_store (i := 13) (oi := _) (w6.setCell ⟨gp, 5, none⟩ (.slice a6 (U.length + 1) c6)) rfl rfl (by kernel_rfl) (by kernel_rfl) (st_ru rfl (by kernel_rfl) (by kernel_rfl) _ hBx rfl) (hH.far hHp.out _) ?_
            refine wpAnyH_done (by kernel_rfl) ?_ _
            clear hns hQ
            simp only [List.set_cons_zero, List.set_cons_succ]
            clear hX hH hBx hKB I5 i5
            go_wp2_with fail
            go_end0
            exact hgood.out _ _ _ HXR.out ⟨_, _, _, _, _, _, _, _, _, _, HFIN.out⟩
          · have hSk : Since wx51 (wx51.alloc (.cells #[.string ⟨a_s.toArray⟩, .string ⟨a_p.toArray⟩, .int .i64 a_n, .bool a_v0, .string ⟨a_l0.toArray⟩, .bool a_v1, .string ⟨a_l1.toArray⟩, .bool a_v2, .string ⟨a_l2.toArray⟩, .bool a_v3, .string ⟨a_l3.toArray⟩, .slice ua l.length uc] 47)) := (Since.refl _).alloc _
            replace hX := hX.next hSk
            replace hH := hH.next hSk
            replace hu := own_since hu hSk
            clear hSk
            have hKB : Cel (wx51.alloc (.cells #[.string ⟨a_s.toArray⟩, .string ⟨a_p.toArray⟩, .int .i64 a_n, .bool a_v0, .string ⟨a_l0.toArray⟩, .bool a_v1, .string ⟨a_l1.toArray⟩, .bool a_v2, .string ⟨a_l2.toArray⟩, .bool a_v3, .string ⟨a_l3.toArray⟩, .slice ua l.length uc] 47)) wx51.heap.size #[.string ⟨a_s.toArray⟩, .string ⟨a_p.toArray⟩, .int .i64 a_n, .bool a_v0, .string ⟨a_l0.toArray⟩, .bool a_v1, .string ⟨a_l1.toArray⟩, .bool a_v2, .string ⟨a_l2.toArray⟩, .bool a_v3, .string ⟨a_l3.toArray⟩, .slice ua l.length uc] 47 := heap_alloc_new _ _
            refine hx_make (i := 4) (oi := _) (.slice va U.length vc) ((wx51.alloc (.cells #[.string ⟨a_s.toArray⟩, .string ⟨a_p.toArray⟩, .int .i64 a_n, .bool a_v0, .string ⟨a_l0.toArray⟩, .bool a_v1, .string ⟨a_l1.toArray⟩, .bool a_v2, .string ⟨a_l2.toArray⟩, .bool a_v3, .string ⟨a_l3.toArray⟩, .slice ua l.length uc] 47))) rfl rfl (by kernel_rfl) (by kernel_rfl) (ld_one rfl (by kernel_rfl) (by kernel_rfl) (wx51.alloc (.cells #[.string ⟨a_s.toArray⟩, .string ⟨a_p.toArray⟩, .int .i64 a_n, .bool a_v0, .string ⟨a_l0.toArray⟩, .bool a_v1, .string ⟨a_l1.toArray⟩, .bool a_v2, .string ⟨a_l2.toArray⟩, .bool a_v3, .string ⟨a_l3.toArray⟩, .slice ua l.length uc] 47)) ((hX.box).cell 5)) hH ?_
            refine hx_append (i := 10) (oi := _) (.tmp 73) (.tmp 78) 26 w0.heap.size 47 i5 (.agg #[.string ByteArray.empty, .string ByteArray.empty, .int .i64 0, .bool false, .string ByteArray.empty, .bool false, .string ByteArray.empty, .bool false, .string ByteArray.empty, .bool false, .string ByteArray.empty, .slice none 0 0]) 12 160 (.slice va U.length vc) U.length _ _ (some ⟨wx51.heap.size, 0, none⟩) 1 1 (#[.string ⟨a_s.toArray⟩, .string ⟨a_p.toArray⟩, .int .i64 a_n, .bool a_v0, .string ⟨a_l0.toArray⟩, .bool a_v1, .string ⟨a_l1.toArray⟩, .bool a_v2, .string ⟨a_l2.toArray⟩, .bool a_v3, .string ⟨a_l3.toArray⟩, .slice ua l.length uc] : Array Value).toList rfl rfl (by kernel_rfl) (by kernel_rfl) rfl Tryz.underlying26 I5.out.1 I5.out.2.1 I5.out.2.2.1 I5.out.2.2.2 rfl (by decide) (by kernel_rfl) hX.own.ru.row (by kernel_rfl) (reads_celR hKB (K := 12) rfl) (by simp [Value.oneCell']) (by have := HRU.out; unfold maxLen; omega) (by have := HRU.out; omega) (hX.sin.size) ?_
            intro v6 w6 hown6 hg6 hat6
            obtain ⟨a6, c6, rfl⟩ := own_slice hown6
            have HFIN := Lib.hid (hX.push_ru (x := (((a_s, a_p, a_n, (a_v0, a_l0), (a_v1, a_l1), (a_v2, a_l2), (a_v3, a_l3)) : Atm), l)) (v6 := .slice a6 (U.length + 1) c6) hX0 hu hown6 hg6 hat6)
            have hBx := cel_own hX.box hX.own.ru.row (by decide) hg6
            replace hH := cel_own hH hX.own.ru.row (by decide) hg6
            clear hown6 hg6 hat6 hX0 hu
            refine ⟨hH, ?_⟩
            refine hx_take (i := 11) (oi := _) (v := .pointer (some ⟨gp, 0, none⟩)) rfl rfl hns (by kernel_rfl) (by kernel_rfl) hQ (by kernel_rfl) (fun _ _ => by kernel_rfl) hH ?_
            refine hx_take (i := 12) (oi := _) (v := .pointer (some ⟨gp, 5, none⟩)) rfl rfl hns (by kernel_rfl) (by kernel_rfl) hQ (by kernel_rfl) (fun _ _ => by kernel_rfl) hH ?_
            refine hx_store (i := 13) (oi := _) (w6.setCell ⟨gp, 5, none⟩ (.slice a6 (U.length + 1) c6)) rfl rfl (by kernel_rfl) (by kernel_rfl) (st_ru rfl (by kernel_rfl) (by kernel_rfl) _ hBx rfl) (hH.far hHp.out _) ?_
            refine wpAnyH_done (by kernel_rfl) ?_ _
            clear hns hQ
            simp only [List.set_cons_zero, List.set_cons_succ]
            clear hX hH hBx hKB I5 i5
            go_wp2_with fail
            go_end0
            exact hgood.out _ _ _ HXR.out ⟨_, _, _, _, _, _, _, _, _, _, HFIN.out⟩
      | true =>
        have hcmp : (t == wCansay) = true := by simpa using of_decide_eq_true hdt
        have hsec : secS wCansay (.ok r) = true := hsc.trans hdt
        clear hr3 hs1 hs2 hd hi1 hh h3 hp hat htl k1 hsc hdt hc hrow
        go_upto_region 2 with (fail)
        have hs0 : Since w3 w3.drew := (Since.refl _).drew
        refine hx_begin (S := fun W => Since w3 W) (by kernel_rfl) hs0 (by kernel_rfl) (fun _ _ _ _ _ h => h) (fun hns hQ => ?_)
        refine hx_take (i := 0) (oi := _) (v := .pointer (some ⟨g, 0, none⟩)) rfl rfl hns (by kernel_rfl) (by kernel_rfl) hQ (by kernel_rfl) (fun _ _ => by kernel_rfl) hs0 ?_
        refine hx_take (i := 1) (oi := _) (v := .pointer (some ⟨g, 0, none⟩)) rfl rfl hns (by kernel_rfl) (by kernel_rfl) hQ (by kernel_rfl) (fun _ _ => by kernel_rfl) hs0 ?_
        refine hx_take (i := 2) (oi := _) (v := .pointer (some ⟨g, 4, none⟩)) rfl rfl hns (by kernel_rfl) (by kernel_rfl) hQ (by kernel_rfl) (fun _ _ => by kernel_rfl) hs0 ?_
        refine hx_take (i := 3) (oi := _) (v := .int .i64 0) rfl rfl hns (by kernel_rfl) (by kernel_rfl) hQ (by kernel_rfl) (fun W hW => ld_one rfl (by kernel_rfl) (by kernel_rfl) W (hE4.next hW 0 _ rfl)) hs0 ?_
        refine hx_take (i := 4) (oi := _) (v := .bool true) rfl rfl hns (by kernel_rfl) (by kernel_rfl) hQ (by kernel_rfl) (fun W _ => eqs_intE (s := 0) rfl (by kernel_rfl) (by kernel_rfl) W) hs0 ?_
        refine hx_take (i := 5) (oi := _) (v := .bool true) rfl rfl hns (by kernel_rfl) (by kernel_rfl) hQ (by kernel_rfl) (fun _ _ => by kernel_rfl) hs0 ?_
        refine hx_take (i := 6) (oi := _) (v := .pointer (some ⟨g, 0, none⟩)) rfl rfl hns (by kernel_rfl) (by kernel_rfl) hQ (by kernel_rfl) (fun _ _ => by kernel_rfl) hs0 ?_
        refine hx_take (i := 7) (oi := _) (v := .pointer (some ⟨g, 0, none⟩)) rfl rfl hns (by kernel_rfl) (by kernel_rfl) hQ (by kernel_rfl) (fun _ _ => by kernel_rfl) hs0 ?_
        refine hx_take (i := 8) (oi := _) (v := .pointer (some ⟨g, 1, none⟩)) rfl rfl hns (by kernel_rfl) (by kernel_rfl) hQ (by kernel_rfl) (fun _ _ => by kernel_rfl) hs0 ?_
        refine hx_take (i := 9) (oi := _) (v := .int .i64 (i : Int)) rfl rfl hns (by kernel_rfl) (by kernel_rfl) hQ (by kernel_rfl) (fun W hW => ld_one rfl (by kernel_rfl) (by kernel_rfl) W (hI1.next hW 0 _ rfl)) hs0 ?_
        refine hx_take (i := 10) (oi := _) (v := .int .i64 (i1 : Int)) rfl rfl hns (by kernel_rfl) (by kernel_rfl) hQ (by kernel_rfl) (fun W _ => addP_int rfl (by kernel_rfl) (by kernel_rfl) hw1 W) hs0 ?_
        refine hx_take (i := 11) (oi := _) (v := .pointer (some ⟨g, 0, none⟩)) rfl rfl hns (by kernel_rfl) (by kernel_rfl) hQ (by kernel_rfl) (fun _ _ => by kernel_rfl) hs0 ?_
        refine hx_take (i := 12) (oi := _) (v := .pointer (some ⟨g, 0, none⟩)) rfl rfl hns (by kernel_rfl) (by kernel_rfl) hQ (by kernel_rfl) (fun _ _ => by kernel_rfl) hs0 ?_
        refine hx_take (i := 13) (oi := _) (v := .pointer (some ⟨g, 0, none⟩)) rfl rfl hns (by kernel_rfl) (by kernel_rfl) hQ (by kernel_rfl) (fun _ _ => by kernel_rfl) hs0 ?_
        refine hx_take (i := 14) (oi := _) (v := .slice (some ⟨b, o, none⟩) L.length lc) rfl rfl hns (by kernel_rfl) (by kernel_rfl) hQ (by kernel_rfl) (fun W hW => ld_one rfl (by kernel_rfl) (by kernel_rfl) W (hL0.next hW 0 _ rfl)) hs0 ?_
        refine hx_take (i := 15) (oi := _) (v := .int .i64 (L.length : Int)) rfl rfl hns (by kernel_rfl) (by kernel_rfl) hQ (by kernel_rfl) (fun _ _ => by kernel_rfl) hs0 ?_
        refine hx_take (i := 16) (oi := _) (v := .bool true) rfl rfl hns (by kernel_rfl) (by kernel_rfl) hQ (by kernel_rfl) (fun W _ => lssP_yes rfl (by kernel_rfl) (by kernel_rfl) h1 W) hs0 ?_
        refine hx_take (i := 17) (oi := _) (v := .bool true) rfl rfl hns (by kernel_rfl) (by kernel_rfl) hQ (by kernel_rfl) (fun _ _ => by kernel_rfl) hs0 ?_
        refine hx_take (i := 18) (oi := _) (v := .bool true) rfl rfl hns (by kernel_rfl) (by kernel_rfl) hQ (by kernel_rfl) (fun _ _ => by kernel_rfl) hs0 ?_
        refine hx_take (i := 19) (oi := _) (v := .pointer (some ⟨g, 0, none⟩)) rfl rfl hns (by kernel_rfl) (by kernel_rfl) hQ (by kernel_rfl) (fun _ _ => by kernel_rfl) hs0 ?_
        refine hx_take (i := 20) (oi := _) (v := .pointer (some ⟨g, 0, none⟩)) rfl rfl hns (by kernel_rfl) (by kernel_rfl) hQ (by kernel_rfl) (fun _ _ => by kernel_rfl) hs0 ?_
        refine hx_take (i := 21) (oi := _) (v := .pointer (some ⟨g, 0, none⟩)) rfl rfl hns (by kernel_rfl) (by kernel_rfl) hQ (by kernel_rfl) (fun _ _ => by kernel_rfl) hs0 ?_
        refine hx_take (i := 22) (oi := _) (v := .slice (some ⟨b, o, none⟩) L.length lc) rfl rfl hns (by kernel_rfl) (by kernel_rfl) hQ (by kernel_rfl) (fun W hW => ld_one rfl (by kernel_rfl) (by kernel_rfl) W (hL0.next hW 0 _ rfl)) hs0 ?_
        refine hx_take (i := 23) (oi := _) (v := .pointer (some ⟨g, 0, none⟩)) rfl rfl hns (by kernel_rfl) (by kernel_rfl) hQ (by kernel_rfl) (fun _ _ => by kernel_rfl) hs0 ?_
        refine hx_take (i := 24) (oi := _) (v := .pointer (some ⟨g, 0, none⟩)) rfl rfl hns (by kernel_rfl) (by kernel_rfl) hQ (by kernel_rfl) (fun _ _ => by kernel_rfl) hs0 ?_
        refine hx_take (i := 25) (oi := _) (v := .pointer (some ⟨g, 1, none⟩)) rfl rfl hns (by kernel_rfl) (by kernel_rfl) hQ (by kernel_rfl) (fun _ _ => by kernel_rfl) hs0 ?_
        refine hx_take (i := 26) (oi := _) (v := .int .i64 (i : Int)) rfl rfl hns (by kernel_rfl) (by kernel_rfl) hQ (by kernel_rfl) (fun W hW => ld_one rfl (by kernel_rfl) (by kernel_rfl) W (hI1.next hW 0 _ rfl)) hs0 ?_
        refine hx_take (i := 27) (oi := _) (v := .int .i64 (i1 : Int)) rfl rfl hns (by kernel_rfl) (by kernel_rfl) hQ (by kernel_rfl) (fun W _ => addP_int rfl (by kernel_rfl) (by kernel_rfl) hw1 W) hs0 ?_
        refine hx_take (i := 28) (oi := _) (v := .pointer (some ⟨b, o + i1 * 3, none⟩)) rfl rfl hns (by kernel_rfl) (by kernel_rfl) hQ (by kernel_rfl) (fun W _ => ix_sl (n := L.length) (c := lc) (K := 3) rfl (by kernel_rfl) (by kernel_rfl) (by kernel_rfl) rfl hi W) hs0 ?_
        refine hx_take (i := 29) (oi := _) (v := .pointer (some ⟨b, o + i1 * 3 + 1, none⟩)) rfl rfl hns (by kernel_rfl) (by kernel_rfl) hQ (by kernel_rfl) (fun _ _ => by kernel_rfl) hs0 ?_
        refine hx_take (i := 30) (oi := _) (v := .string ⟨t.toArray⟩) rfl rfl hns (by kernel_rfl) (by kernel_rfl) hQ (by kernel_rfl) (fun W hW => ld_one rfl (by kernel_rfl) (by kernel_rfl) W (hT.next hW 0 _ rfl)) hs0 ?_
        refine hx_take (i := 31) (oi := _) (v := .bool true) rfl rfl hns (by kernel_rfl) (by kernel_rfl) hQ (by kernel_rfl) (fun W _ => eqT_is rfl (by kernel_rfl) (by kernel_rfl) hcmp W) hs0 ?_
        refine hx_take (i := 32) (oi := _) (v := .bool true) rfl rfl hns (by kernel_rfl) (by kernel_rfl) hQ (by kernel_rfl) (fun _ _ => by kernel_rfl) hs0 ?_
        refine wpAnyH_done (by kernel_rfl) ?_ _
        clear hns hQ
        simp only [List.set_cons_zero, List.set_cons_succ]
        obtain ⟨tw, hto⟩ : ∃ x, Hid (x = nextV principalB (.ok r)) := ⟨_, rfl⟩
        obtain ⟨q3, hq3⟩ : ∃ x, Hid (x = nextS principalB (.ok r)) := ⟨_, rfl⟩
        have HXR0 : Hid (X = ({ P with gr := P.gr ++ [(tw, (saidX who (mustS wCansay q3)).1, (bodyX (saidX who (mustS wCansay q3)).2).1)] }, (bodyX (saidX who (mustS wCansay q3)).2).2)) := by show _ = _; rw [hX.out, if_pos hsec, hto.out, hq3.out]
        have hX4 := hX3.next hs0
        obtain ⟨j4, hr4⟩ := hX4.rd
        have HN := Lib.hid (rnext_any 0 principalB (fun t W ht => rmay_princ t W ht) HF.out hr4)
        rw [← hto.out, ← hq3.out] at HN
        obtain ⟨q4, hq4⟩ : ∃ x, Hid (x = mustS wCansay q3) := ⟨_, rfl⟩
        rw [← hq4.out] at HXR0
        obtain ⟨⟨⟨a_s, a_p, a_n, ⟨a_v0, a_l0⟩, ⟨a_v1, a_l1⟩, ⟨a_v2, a_l2⟩, ⟨a_v3, a_l3⟩⟩, q5⟩, hq5⟩ : ∃ x, Hid (x = saidX who q4) := ⟨_, rfl⟩
        rw [← hq5.out] at HXR0
        simp only at HXR0
        obtain ⟨⟨l, q6⟩, hq6⟩ : ∃ x, Hid (x = bodyX q5) := ⟨_, rfl⟩
        rw [← hq6.out] at HXR0
        have HXR : Hid (X = ({ P with gr := P.gr ++ [(tw, ((a_s, a_p, a_n, (a_v0, a_l0), (a_v1, a_l1), (a_v2, a_l2), (a_v3, a_l3)) : Atm), l)] }, q6)) := HXR0.out
        clear hX hsec hX3 hr4 HXR0 hs0 hto hq3 hE4 hI1 hL0 hT hw1 h1 hi hcmp hlv
        go_wp2_with fail
        refine HN.out.mono ?_
        rintro e w5 ⟨rfl, hr5, hk5⟩
        have hX5 := hX4.only hr5 hk5
        have HLO0 := hX5.sin.size
        have HNE0 : ∀ b, c9.ownBlock = some b → ¬ b = w5.heap.size := fun b hb e => by have := (hX5.own.gr.row.lt b hb).2; omega
        have hSa : Since w5 (w5.alloc (.cells #[.string ⟨tw.toArray⟩, .string ⟨#[]⟩, .string ⟨#[]⟩, .int .i64 0, .bool false, .string ⟨#[]⟩, .bool false, .string ⟨#[]⟩, .bool false, .string ⟨#[]⟩, .bool false, .string ⟨#[]⟩, .slice none 0 0] 49)) := (Since.refl _).alloc _
        have hX6 := hX5.next hSa
        have hB0 : Cel (w5.alloc (.cells #[.string ⟨tw.toArray⟩, .string ⟨#[]⟩, .string ⟨#[]⟩, .int .i64 0, .bool false, .string ⟨#[]⟩, .bool false, .string ⟨#[]⟩, .bool false, .string ⟨#[]⟩, .bool false, .string ⟨#[]⟩, .slice none 0 0] 49)) w5.heap.size #[.string ⟨tw.toArray⟩, .string ⟨#[]⟩, .string ⟨#[]⟩, .int .i64 0, .bool false, .string ⟨#[]⟩, .bool false, .string ⟨#[]⟩, .bool false, .string ⟨#[]⟩, .bool false, .string ⟨#[]⟩, .slice none 0 0] 49 := heap_alloc_new _ _
        clear HN hX4 hr5 hk5 hX5 hSa
        go_upto_region 4 with (fail)
        obtain ⟨hb, hhb⟩ : ∃ x, Hid (x = w5.heap.size) := ⟨_, rfl⟩
        simp only [← hhb.out]
        rw [← hhb.out] at hB0 HLO0 HNE0
        have HLO := Lib.hid HLO0
        have HNE := Lib.hid HNE0
        clear hhb HLO0 HNE0
        generalize (w5.alloc (.cells #[.string ⟨tw.toArray⟩, .string ⟨#[]⟩, .string ⟨#[]⟩, .int .i64 0, .bool false, .string ⟨#[]⟩, .bool false, .string ⟨#[]⟩, .bool false, .string ⟨#[]⟩, .bool false, .string ⟨#[]⟩, .slice none 0 0] 49)) = w6 at *
        have hHg : Hid (¬ hb = g) := by obtain ⟨j, hr⟩ := hX6.rd; exact cel_cel_ne hB0 hr.cel (by decide)
        have hHp : Hid (hb ≠ gp) := cel_cel_ne hB0 hX6.box (by decide)
        obtain ⟨j6, hr6⟩ := hX6.rd
        have HMX := Lib.hid (rmust_any wCansay hr6)
        rw [← hq4.out] at HMX
        clear hr6 hq4
        go_wp2_with fail
        refine HMX.out.mono ?_
        rintro e w7 ⟨rfl, hr7, hk7⟩
        have hX7 := hX6.only hr7 hk7
        have hB7 := hk7.cel hB0 hHg.out
        obtain ⟨j7, hr7⟩ := hr7
        have HS := Lib.hid (rsaid10_any who HF.out hr7)
        rw [← hq5.out] at HS
        have HS2 : Hid (Calls Tryz.prog 78 #[.pointer (some ⟨g, 0, none⟩), .string ⟨who.toArray⟩] w7 fun e w' => e = .returned (.agg #[.string ⟨a_s.toArray⟩, .string ⟨a_p.toArray⟩, .int .i64 a_n, .bool a_v0, .string ⟨a_l0.toArray⟩, .bool a_v1, .string ⟨a_l1.toArray⟩, .bool a_v2, .string ⟨a_l2.toArray⟩, .bool a_v3, .string ⟨a_l3.toArray⟩]) ∧ (∃ j, Rdr w' g lv L n q5 j) ∧ OnlyG g w7 w') := HS.out
        clear HMX hX6 hB0 hr7 hk7 HS hq5
        go_wp2_with fail
        refine HS2.out.mono ?_
        rintro e w8 ⟨rfl, hr8, hk8⟩
        have hX8 := hX7.only hr8 hk8
        have hB0 := hk8.cel hB7 hHg.out
        have hone : Hid (((#[.string ⟨a_s.toArray⟩, .string ⟨a_p.toArray⟩, .int .i64 a_n, .bool a_v0, .string ⟨a_l0.toArray⟩, .bool a_v1, .string ⟨a_l1.toArray⟩, .bool a_v2, .string ⟨a_l2.toArray⟩, .bool a_v3, .string ⟨a_l3.toArray⟩] : Array Value).all (·.oneCell')) = true) := by show _ = _; simp [Value.oneCell']
        have hTH : w8.there hb 1 11 := cel_there hB0 (by show 1 + 11 ≤ 13; decide)
        have hB9 : Cel (w8.setCells hb 1 (#[.string ⟨a_s.toArray⟩, .string ⟨a_p.toArray⟩, .int .i64 a_n, .bool a_v0, .string ⟨a_l0.toArray⟩, .bool a_v1, .string ⟨a_l1.toArray⟩, .bool a_v2, .string ⟨a_l2.toArray⟩, .bool a_v3, .string ⟨a_l3.toArray⟩] : Array Value).toList) hb #[.string ⟨tw.toArray⟩, .string ⟨a_s.toArray⟩, .string ⟨a_p.toArray⟩, .int .i64 a_n, .bool a_v0, .string ⟨a_l0.toArray⟩, .bool a_v1, .string ⟨a_l1.toArray⟩, .bool a_v2, .string ⟨a_l2.toArray⟩, .bool a_v3, .string ⟨a_l3.toArray⟩, .slice none 0 0] 49 := cel_setsV hB0 _ 1 (by simp [setsV])
        have hZ9 := only_sets w8 hb 1 (#[.string ⟨a_s.toArray⟩, .string ⟨a_p.toArray⟩, .int .i64 a_n, .bool a_v0, .string ⟨a_l0.toArray⟩, .bool a_v1, .string ⟨a_l1.toArray⟩, .bool a_v2, .string ⟨a_l2.toArray⟩, .bool a_v3, .string ⟨a_l3.toArray⟩] : Array Value).toList
        have hX9 : PX w0 (w8.setCells hb 1 (#[.string ⟨a_s.toArray⟩, .string ⟨a_p.toArray⟩, .int .i64 a_n, .bool a_v0, .string ⟨a_l0.toArray⟩, .bool a_v1, .string ⟨a_l1.toArray⟩, .bool a_v2, .string ⟨a_l2.toArray⟩, .bool a_v3, .string ⟨a_l3.toArray⟩] : Array Value).toList) g gp lv L n q5 P c3 c4 c5 c6 c7 c8 c9 C U G := hX8.aside hZ9 hB0 hHg.out hHp.out HLO.out HNE.out (by decide) (by decide) (by decide) (by decide) (by decide) (by decide)
        have HB9 := Lib.hid hB9
        have HX9 := Lib.hid hX9
        clear HS2 hX7 hB7 hr8 hk8 hX8 hB0 hZ9 hB9 hX9
        go_wp2_with (refine wpList_store_mid rfl 44 (.tmp 52) (.tmp 51) rfl hb 1 #[.string ⟨a_s.toArray⟩, .string ⟨a_p.toArray⟩, .int .i64 a_n, .bool a_v0, .string ⟨a_l0.toArray⟩, .bool a_v1, .string ⟨a_l1.toArray⟩, .bool a_v2, .string ⟨a_l2.toArray⟩, .bool a_v3, .string ⟨a_l3.toArray⟩] rfl rfl hTH ainfoC hone.out ?_; generalize w8.setCells hb 1 (#[.string ⟨a_s.toArray⟩, .string ⟨a_p.toArray⟩, .int .i64 a_n, .bool a_v0, .string ⟨a_l0.toArray⟩, .bool a_v1, .string ⟨a_l1.toArray⟩, .bool a_v2, .string ⟨a_l2.toArray⟩, .bool a_v3, .string ⟨a_l3.toArray⟩] : Array Value).toList = w9 at *)
        have hB9 := HB9.out
        have hX9 := HX9.out
        clear HB9 HX9 hone hTH
        obtain ⟨j9, hr9⟩ := hX9.rd
        have HBD := Lib.hid (rbody10_any HF.out hr9)
        rw [← hq6.out] at HBD
        simp only at HBD
        clear hr9 hq6
        refine HBD.out.mono ?_
        rintro e wA ⟨v, rfl, hu, hrA, hkA⟩
        obtain ⟨ua, uc, rfl⟩ := own_slice hu
        have HX0 := Lib.hid hX9
        have hXA := hX9.only hrA hkA
        have hBA := hkA.cel hB9 hHg.out
        have y12 : wA.cell? ⟨hb, 12, none⟩ = some (.slice none 0 0) := hBA.cell 12
        have z12 : wA.frozen? ⟨hb, 12, none⟩ = false := hBA.free 12
        have l12 := hBA.lt
        have hH : Cel (wA.setCell ⟨hb, 12, none⟩ (.slice ua l.length uc)) hb #[.string ⟨tw.toArray⟩, .string ⟨a_s.toArray⟩, .string ⟨a_p.toArray⟩, .int .i64 a_n, .bool a_v0, .string ⟨a_l0.toArray⟩, .bool a_v1, .string ⟨a_l1.toArray⟩, .bool a_v2, .string ⟨a_l2.toArray⟩, .bool a_v3, .string ⟨a_l3.toArray⟩, .slice ua l.length uc] 49 := hBA.set rfl
        have hZB : Keep (fun b => b = hb) wA (wA.setCell ⟨hb, 12, none⟩ (.slice ua l.length uc)) := Keep.of_grown (grown_setCell wA hb 12 _) fun b hb => by injection hb with hb; exact hb.symm
        have hX : PX w0 (wA.setCell ⟨hb, 12, none⟩ (.slice ua l.length uc)) g gp lv L n q6 P c3 c4 c5 c6 c7 c8 c9 C U G := hXA.aside hZB hBA hHg.out hHp.out HLO.out HNE.out (by decide) (by decide) (by decide) (by decide) (by decide) (by decide)
        replace hu := own_setCell (j := 12) (u := .slice ua l.length uc) hu hBA (by decide)
        clear HBD hX9 hB9 hrA hkA hXA hBA hZB
        go_upto_region 7 with (fail)
        clear y12 z12 l12
        generalize (wA.setCell ⟨hb, 12, none⟩ (.slice ua l.length uc)) = wG at *
        obtain ⟨i5, hi5, hz0, hz1, hz2⟩ := info_parts info_gr
        have I5 := Lib.hid (And.intro hi5 (And.intro hz0 (And.intro hz1 hz2)))
        clear hi5 hz0 hz1 hz2
        obtain ⟨va, vc, rfl⟩ := own_slice hX.own.gr.row
        have HRG : Hid (G.length + 1 ≤ 70000) := by show _ ≤ _; have h1 := congrArg List.length hX.own.eG; rw [List.length_map] at h1; have := HRM.out.2; omega

        have hSd : Since wG wG.drew := (Since.refl _).drew
        replace hX := hX.next hSd
        replace hH := hH.next hSd
        replace hu := own_since hu hSd
        clear hSd
        refine hx_begin (S := fun W => Cel W hb #[.string ⟨tw.toArray⟩, .string ⟨a_s.toArray⟩, .string ⟨a_p.toArray⟩, .int .i64 a_n, .bool a_v0, .string ⟨a_l0.toArray⟩, .bool a_v1, .string ⟨a_l1.toArray⟩, .bool a_v2, .string ⟨a_l2.toArray⟩, .bool a_v3, .string ⟨a_l3.toArray⟩, .slice ua l.length uc] 49) (by kernel_rfl) hH (by kernel_rfl) (fun _ _ _ _ _ h => h) (fun hns hQ => ?_)
        refine hx_take (i := 0) (oi := _) (v := .pointer (some ⟨gp, 0, none⟩)) rfl rfl hns (by kernel_rfl) (by kernel_rfl) hQ (by kernel_rfl) (fun _ _ => by kernel_rfl) hH ?_
        refine hx_take (i := 1) (oi := _) (v := .pointer (some ⟨gp, 0, none⟩)) rfl rfl hns (by kernel_rfl) (by kernel_rfl) hQ (by kernel_rfl) (fun _ _ => by kernel_rfl) hH ?_
        refine hx_take (i := 2) (oi := _) (v := .pointer (some ⟨gp, 0, none⟩)) rfl rfl hns (by kernel_rfl) (by kernel_rfl) hQ (by kernel_rfl) (fun _ _ => by kernel_rfl) hH ?_
        refine hx_take (i := 3) (oi := _) (v := .pointer (some ⟨gp, 6, none⟩)) rfl rfl hns (by kernel_rfl) (by kernel_rfl) hQ (by kernel_rfl) (fun _ _ => by kernel_rfl) hH ?_
        refine hx_take (i := 5) (oi := _) (v := .agg #[.string ⟨tw.toArray⟩, .string ⟨a_s.toArray⟩, .string ⟨a_p.toArray⟩, .int .i64 a_n, .bool a_v0, .string ⟨a_l0.toArray⟩, .bool a_v1, .string ⟨a_l1.toArray⟩, .bool a_v2, .string ⟨a_l2.toArray⟩, .bool a_v3, .string ⟨a_l3.toArray⟩, .slice ua l.length uc]) rfl rfl hns (by kernel_rfl) (by kernel_rfl) hQ (by kernel_rfl) (fun W hW => ld_at rfl (by kernel_rfl) (by kernel_rfl) (by kernel_rfl) W (Cel.at hW)) hH ?_
        refine hx_two_vv (i := 4) (j := 6) (.slice va G.length vc) (wG.drew) (.slice (some ⟨wG.drew.heap.size, 0, none⟩) 1 1) ((wG.drew.alloc (.cells #[.string ⟨tw.toArray⟩, .string ⟨a_s.toArray⟩, .string ⟨a_p.toArray⟩, .int .i64 a_n, .bool a_v0, .string ⟨a_l0.toArray⟩, .bool a_v1, .string ⟨a_l1.toArray⟩, .bool a_v2, .string ⟨a_l2.toArray⟩, .bool a_v3, .string ⟨a_l3.toArray⟩, .slice ua l.length uc] 49))) rfl rfl (by kernel_rfl) (by kernel_rfl) (by kernel_rfl) rfl (ld_one rfl (by kernel_rfl) (by kernel_rfl) wG.drew ((hX.box).cell 6)) hH rfl (by kernel_rfl) (hH.next ((Since.refl _).alloc _)) ?_ ?_
        · refine hx_make (i := 6) (oi := _) (.slice (some ⟨wG.drew.heap.size, 0, none⟩) 1 1) (wG.drew.alloc (.cells #[.string ⟨tw.toArray⟩, .string ⟨a_s.toArray⟩, .string ⟨a_p.toArray⟩, .int .i64 a_n, .bool a_v0, .string ⟨a_l0.toArray⟩, .bool a_v1, .string ⟨a_l1.toArray⟩, .bool a_v2, .string ⟨a_l2.toArray⟩, .bool a_v3, .string ⟨a_l3.toArray⟩, .slice ua l.length uc] 49)) rfl rfl (by kernel_rfl) (by kernel_rfl) (by kernel_rfl) (hH.next ((Since.refl _).alloc _)) ?_
          have hSk : Since wG.drew (wG.drew.alloc (.cells #[.string ⟨tw.toArray⟩, .string ⟨a_s.toArray⟩, .string ⟨a_p.toArray⟩, .int .i64 a_n, .bool a_v0, .string ⟨a_l0.toArray⟩, .bool a_v1, .string ⟨a_l1.toArray⟩, .bool a_v2, .string ⟨a_l2.toArray⟩, .bool a_v3, .string ⟨a_l3.toArray⟩, .slice ua l.length uc] 49)) := (Since.refl _).alloc _
          replace hX := hX.next hSk
          replace hH := hH.next hSk
          replace hu := own_since hu hSk
          clear hSk
          have hKB : Cel (wG.drew.alloc (.cells #[.string ⟨tw.toArray⟩, .string ⟨a_s.toArray⟩, .string ⟨a_p.toArray⟩, .int .i64 a_n, .bool a_v0, .string ⟨a_l0.toArray⟩, .bool a_v1, .string ⟨a_l1.toArray⟩, .bool a_v2, .string ⟨a_l2.toArray⟩, .bool a_v3, .string ⟨a_l3.toArray⟩, .slice ua l.length uc] 49)) wG.drew.heap.size #[.string ⟨tw.toArray⟩, .string ⟨a_s.toArray⟩, .string ⟨a_p.toArray⟩, .int .i64 a_n, .bool a_v0, .string ⟨a_l0.toArray⟩, .bool a_v1, .string ⟨a_l1.toArray⟩, .bool a_v2, .string ⟨a_l2.toArray⟩, .bool a_v3, .string ⟨a_l3.toArray⟩, .slice ua l.length uc] 49 := heap_alloc_new _ _
          refine hx_append (i := 7) (oi := _) (.tmp 60) (.tmp 62) 27 w0.heap.size 49 i5 (.agg #[.string ByteArray.empty, .string ByteArray.empty, .string ByteArray.empty, .int .i64 0, .bool false, .string ByteArray.empty, .bool false, .string ByteArray.empty, .bool false, .string ByteArray.empty, .bool false, .string ByteArray.empty, .slice none 0 0]) 13 176 (.slice va G.length vc) G.length _ _ (some ⟨wG.drew.heap.size, 0, none⟩) 1 1 (#[.string ⟨tw.toArray⟩, .string ⟨a_s.toArray⟩, .string ⟨a_p.toArray⟩, .int .i64 a_n, .bool a_v0, .string ⟨a_l0.toArray⟩, .bool a_v1, .string ⟨a_l1.toArray⟩, .bool a_v2, .string ⟨a_l2.toArray⟩, .bool a_v3, .string ⟨a_l3.toArray⟩, .slice ua l.length uc] : Array Value).toList rfl rfl (by kernel_rfl) (by kernel_rfl) rfl Tryz.underlying27 I5.out.1 I5.out.2.1 I5.out.2.2.1 I5.out.2.2.2 rfl (by decide) (by kernel_rfl) hX.own.gr.row (by kernel_rfl) (reads_celR hKB (K := 13) rfl) (by simp [Value.oneCell']) (by have := HRG.out; unfold maxLen; omega) (by have := HRG.out; omega) (hX.sin.size) ?_
          intro v6 w6 hown6 hg6 hat6
          obtain ⟨a6, c6, rfl⟩ := own_slice hown6
          have HFIN := Lib.hid (hX.push_gr (x := (tw, ((a_s, a_p, a_n, (a_v0, a_l0), (a_v1, a_l1), (a_v2, a_l2), (a_v3, a_l3)) : Atm), l)) (v6 := .slice a6 (G.length + 1) c6) HX0.out hu hown6 hg6 hat6)
          have hBx := cel_own hX.box hX.own.gr.row (by decide) hg6
          replace hH := hH.grown hg6 (fun e => HNE.out _ e.symm rfl)
          clear hown6 hg6 hat6 hu
          refine ⟨hH, ?_⟩
          refine hx_take (i := 8) (oi := _) (v := .pointer (some ⟨gp, 0, none⟩)) rfl rfl hns (by kernel_rfl) (by kernel_rfl) hQ (by kernel_rfl) (fun _ _ => by kernel_rfl) hH ?_
          refine hx_take (i := 9) (oi := _) (v := .pointer (some ⟨gp, 6, none⟩)) rfl rfl hns (by kernel_rfl) (by kernel_rfl) hQ (by kernel_rfl) (fun _ _ => by kernel_rfl) hH ?_
          refine hx_store (i := 10) (oi := _) (w6.setCell ⟨gp, 6, none⟩ (.slice a6 (G.length + 1) c6)) rfl rfl (by kernel_rfl) (by kernel_rfl) (st_gr rfl (by kernel_rfl) (by kernel_rfl) _ hBx rfl) (hH.far hHp.out _) ?_
          refine wpAnyH_done (by kernel_rfl) ?_ _
          clear hns hQ
          simp only [List.set_cons_zero, List.set_cons_succ]
          clear hX hH hBx hKB I5 i5
          go_wp2_with fail
          refine bodyPost_ret (results_none rfl _ _ _) rfl ?_
          exact hgood.out _ _ _ HXR.out ⟨_, _, _, _, _, _, _, _, _, _, HFIN.out⟩
        · have hSk : Since wG.drew (wG.drew.alloc (.cells #[.string ⟨tw.toArray⟩, .string ⟨a_s.toArray⟩, .string ⟨a_p.toArray⟩, .int .i64 a_n, .bool a_v0, .string ⟨a_l0.toArray⟩, .bool a_v1, .string ⟨a_l1.toArray⟩, .bool a_v2, .string ⟨a_l2.toArray⟩, .bool a_v3, .string ⟨a_l3.toArray⟩, .slice ua l.length uc] 49)) := (Since.refl _).alloc _
          replace hX := hX.next hSk
          replace hH := hH.next hSk
          replace hu := own_since hu hSk
          clear hSk
          have hKB : Cel (wG.drew.alloc (.cells #[.string ⟨tw.toArray⟩, .string ⟨a_s.toArray⟩, .string ⟨a_p.toArray⟩, .int .i64 a_n, .bool a_v0, .string ⟨a_l0.toArray⟩, .bool a_v1, .string ⟨a_l1.toArray⟩, .bool a_v2, .string ⟨a_l2.toArray⟩, .bool a_v3, .string ⟨a_l3.toArray⟩, .slice ua l.length uc] 49)) wG.drew.heap.size #[.string ⟨tw.toArray⟩, .string ⟨a_s.toArray⟩, .string ⟨a_p.toArray⟩, .int .i64 a_n, .bool a_v0, .string ⟨a_l0.toArray⟩, .bool a_v1, .string ⟨a_l1.toArray⟩, .bool a_v2, .string ⟨a_l2.toArray⟩, .bool a_v3, .string ⟨a_l3.toArray⟩, .slice ua l.length uc] 49 := heap_alloc_new _ _
          refine hx_make (i := 4) (oi := _) (.slice va G.length vc) ((wG.drew.alloc (.cells #[.string ⟨tw.toArray⟩, .string ⟨a_s.toArray⟩, .string ⟨a_p.toArray⟩, .int .i64 a_n, .bool a_v0, .string ⟨a_l0.toArray⟩, .bool a_v1, .string ⟨a_l1.toArray⟩, .bool a_v2, .string ⟨a_l2.toArray⟩, .bool a_v3, .string ⟨a_l3.toArray⟩, .slice ua l.length uc] 49))) rfl rfl (by kernel_rfl) (by kernel_rfl) (ld_one rfl (by kernel_rfl) (by kernel_rfl) (wG.drew.alloc (.cells #[.string ⟨tw.toArray⟩, .string ⟨a_s.toArray⟩, .string ⟨a_p.toArray⟩, .int .i64 a_n, .bool a_v0, .string ⟨a_l0.toArray⟩, .bool a_v1, .string ⟨a_l1.toArray⟩, .bool a_v2, .string ⟨a_l2.toArray⟩, .bool a_v3, .string ⟨a_l3.toArray⟩, .slice ua l.length uc] 49)) ((hX.box).cell 6)) hH ?_
          refine hx_append (i := 7) (oi := _) (.tmp 60) (.tmp 62) 27 w0.heap.size 49 i5 (.agg #[.string ByteArray.empty, .string ByteArray.empty, .string ByteArray.empty, .int .i64 0, .bool false, .string ByteArray.empty, .bool false, .string ByteArray.empty, .bool false, .string ByteArray.empty, .bool false, .string ByteArray.empty, .slice none 0 0]) 13 176 (.slice va G.length vc) G.length _ _ (some ⟨wG.drew.heap.size, 0, none⟩) 1 1 (#[.string ⟨tw.toArray⟩, .string ⟨a_s.toArray⟩, .string ⟨a_p.toArray⟩, .int .i64 a_n, .bool a_v0, .string ⟨a_l0.toArray⟩, .bool a_v1, .string ⟨a_l1.toArray⟩, .bool a_v2, .string ⟨a_l2.toArray⟩, .bool a_v3, .string ⟨a_l3.toArray⟩, .slice ua l.length uc] : Array Value).toList rfl rfl (by kernel_rfl) (by kernel_rfl) rfl Tryz.underlying27 I5.out.1 I5.out.2.1 I5.out.2.2.1 I5.out.2.2.2 rfl (by decide) (by kernel_rfl) hX.own.gr.row (by kernel_rfl) (reads_celR hKB (K := 13) rfl) (by simp [Value.oneCell']) (by have := HRG.out; unfold maxLen; omega) (by have := HRG.out; omega) (hX.sin.size) ?_
          intro v6 w6 hown6 hg6 hat6
          obtain ⟨a6, c6, rfl⟩ := own_slice hown6
          have HFIN := Lib.hid (hX.push_gr (x := (tw, ((a_s, a_p, a_n, (a_v0, a_l0), (a_v1, a_l1), (a_v2, a_l2), (a_v3, a_l3)) : Atm), l)) (v6 := .slice a6 (G.length + 1) c6) HX0.out hu hown6 hg6 hat6)
          have hBx := cel_own hX.box hX.own.gr.row (by decide) hg6
          replace hH := hH.grown hg6 (fun e => HNE.out _ e.symm rfl)
          clear hown6 hg6 hat6 hu
          refine ⟨hH, ?_⟩
          refine hx_take (i := 8) (oi := _) (v := .pointer (some ⟨gp, 0, none⟩)) rfl rfl hns (by kernel_rfl) (by kernel_rfl) hQ (by kernel_rfl) (fun _ _ => by kernel_rfl) hH ?_
          refine hx_take (i := 9) (oi := _) (v := .pointer (some ⟨gp, 6, none⟩)) rfl rfl hns (by kernel_rfl) (by kernel_rfl) hQ (by kernel_rfl) (fun _ _ => by kernel_rfl) hH ?_
          refine hx_store (i := 10) (oi := _) (w6.setCell ⟨gp, 6, none⟩ (.slice a6 (G.length + 1) c6)) rfl rfl (by kernel_rfl) (by kernel_rfl) (st_gr rfl (by kernel_rfl) (by kernel_rfl) _ hBx rfl) (hH.far hHp.out _) ?_
          refine wpAnyH_done (by kernel_rfl) ?_ _
          clear hns hQ
          simp only [List.set_cons_zero, List.set_cons_succ]
          clear hX hH hBx hKB I5 i5
          go_wp2_with fail
          refine bodyPost_ret (results_none rfl _ _ _) rfl ?_
          exact hgood.out _ _ _ HXR.out ⟨_, _, _, _, _, _, _, _, _, _, HFIN.out⟩
end Go.Proofs.YtnfjjckbgnieeaaGreatDoor
