/- A policy that grows, in memory: rows of the parser's own. The parser between statements, in memory; what one more of each kind leaves. The parser: numbers that are told once. The parser: declarations of principals and predicates. The parser: whose namespaces one reads. -/
import Derived.Test.YtnfjjckbgnieeaaGreatDoorVParE
import Derived.Test.YtnfjjckbgnieeaaGreatDoorVPol
import Derived.Test.YtnfjjckbgnieeaaGreatDoorVASet
namespace Go.Proofs.YtnfjjckbgnieeaaGreatDoor
open Go.RowKit

def txtL (x : Txt) : List Value := [.string ⟨x.toArray⟩]
def prdL (x : Txt × Int) : List Value := [.string ⟨x.1.toArray⟩, .int .i64 x.2]
abbrev Clr := Txt × List Txt
abbrev Rul := Atm × List Atm
abbrev Grn := Txt × Atm × List Atm
def clrC (x : Clr) (u : Value) : List Value := [.string ⟨x.1.toArray⟩, u]
def rulC (x : Rul) (u : Value) : List Value := (atmC x.1).toList ++ [u]
def grnC (x : Grn) (u : Value) : List Value := .string ⟨x.1.toArray⟩ :: ((atmC x.2.1).toList ++ [u])
abbrev ClN (W : World) (D : Nat) (v : Value) (C : List (Clr × Value)) : Prop := Nest W D 38 2 clrC 9 1 (fun x => x.2.length) (fun x => x.2.flatMap txtL) v C
abbrev RuN (W : World) (D : Nat) (v : Value) (U : List (Rul × Value)) : Prop := Nest W D 47 12 rulC 44 11 (fun x => x.2.length) (fun x => x.2.flatMap atmL) v U
abbrev GrN (W : World) (D : Nat) (v : Value) (G : List (Grn × Value)) : Prop := Nest W D 49 13 grnC 44 11 (fun x => x.2.2.length) (fun x => x.2.2.flatMap atmL) v G
/-- The policy that has been read so far, in rows from block D on. -/
structure POwn (W : World) (D : Nat) (c3 c4 c5 c6 c7 c8 c9 : Value) (P : Pol) (C : List (Clr × Value)) (U : List (Rul × Value)) (G : List (Grn × Value)) : Prop where
  pr : W.ownsRow D 9 1 c3 P.pr.length (P.pr.flatMap txtL)
  pd : W.ownsRow D 36 2 c4 P.pd.length (P.pd.flatMap prdL)
  cl : ClN W D c5 C
  ru : RuN W D c8 U
  gr : GrN W D c9 G
  eC : C.map Prod.fst = P.cl
  eU : U.map Prod.fst = P.ru
  eG : G.map Prod.fst = P.gr
  qu : c6 = .int .i64 P.qu
  bu : c7 = .int .i64 P.bu
  aC : ∀ p ∈ C, apartV p.2 c3
  aU : ∀ p ∈ U, ∀ q ∈ G, apartV p.2 q.2
theorem POwn.next {W W' : World} {D : Nat} {c3 c4 c5 c6 c7 c8 c9 : Value} {P : Pol} {C : List (Clr × Value)} {U : List (Rul × Value)} {G : List (Grn × Value)} (h : POwn W D c3 c4 c5 c6 c7 c8 c9 P C U G) (hs : Since W W') : POwn W' D c3 c4 c5 c6 c7 c8 c9 P C U G :=
  ⟨own_since h.pr hs, own_since h.pd hs, h.cl.next hs, h.ru.next hs, h.gr.next hs, h.eC, h.eU, h.eG, h.qu, h.bu, h.aC, h.aU⟩
theorem POwn.nil (W : World) (D : Nat) : POwn W D (.slice none 0 0) (.slice none 0 0) (.slice none 0 0) (.int .i64 0) (.int .i64 0) (.slice none 0 0) (.slice none 0 0) pol0 [] [] [] :=
  ⟨World.ownsRow_nil _ _ _ _, World.ownsRow_nil _ _ _ _, Nest.nil, Nest.nil, Nest.nil, rfl, rfl, rfl, rfl, rfl, fun _ h => (by cases h), fun _ h => (by cases h)⟩
/-- The parser's block changes alone. -/
theorem POwn.only {W W' : World} {g D : Nat} {cs : Array Value} {c3 c4 c5 c6 c7 c8 c9 : Value} {P : Pol} {C : List (Clr × Value)} {U : List (Rul × Value)} {G : List (Grn × Value)} (h : POwn W D c3 c4 c5 c6 c7 c8 c9 P C U G) (hc : Cel W g cs 83) (hk : OnlyG g W W') : POwn W' D c3 c4 c5 c6 c7 c8 c9 P C U G := by
  have key : ∀ {e : TypeId} {K m : Nat} {v : Value} {xs : List Value}, W.ownsRow D e K v m xs → e ≠ 83 → W'.ownsRow D e K v m xs := fun hr he => hk.own hr (fun b hb e => cel_own_ne hc hr he (by rw [hb, e]))
  exact ⟨key h.pr (by decide), key h.pd (by decide), ⟨key h.cl.row (by decide), fun p hp => key (h.cl.ins p hp) (by decide), h.cl.apart⟩, ⟨key h.ru.row (by decide), fun p hp => key (h.ru.ins p hp) (by decide), h.ru.apart⟩, ⟨key h.gr.row (by decide), fun p hp => key (h.gr.ins p hp) (by decide), h.gr.apart⟩, h.eC, h.eU, h.eG, h.qu, h.bu, h.aC, h.aU⟩
end Go.Proofs.YtnfjjckbgnieeaaGreatDoor

namespace Go.Proofs.YtnfjjckbgnieeaaGreatDoor
open Go.RowKit

theorem set_stand {W W' : World} {b k : Nat} {S : List Txt} (h : SetAt W b k S) (hb : W'.heap[b]? = W.heap[b]?) : SetAt W' b k S := by
  obtain ⟨es, clock, h1, r⟩ := h
  exact ⟨es, clock, hb.trans h1, r⟩
theorem set_lt {W : World} {b k : Nat} {S : List Txt} (h : SetAt W b k S) : b < W.heap.size := World.ownsMap.lt h
theorem set_cel_ne {W : World} {b k g : Nat} {S : List Txt} {cs : Array Value} {T : TypeId} (h : SetAt W b k S) (hc : Cel W g cs T) : b ≠ g := by
  rintro rfl
  obtain ⟨es, clock, h1, r⟩ := h
  unfold Cel at hc
  rw [h1] at hc
  injection hc with hc
  cases hc
theorem set_own_ne {W : World} {b k : Nat} {S : List Txt} {B : Nat} {e : TypeId} {K m : Nat} {v : Value} {xs : List Value} (h : SetAt W b k S) (hr : W.ownsRow B e K v m xs) : some b ≠ v.ownBlock := by
  intro hh
  obtain ⟨es, clock, h1, r⟩ := h
  obtain ⟨c1, f1, k1⟩ := Lib.ownsRow_kind hr b hh.symm
  rw [h1] at k1
  injection k1 with k1
  cases k1
theorem set_setCell {W : World} {b k g j : Nat} {S : List Txt} {cs : Array Value} {T : TypeId} {u : Value} (h : SetAt W b k S) (hc : Cel W g cs T) : SetAt (W.setCell ⟨g, j, none⟩ u) b k S := set_stand h (Below.heap_setCell W ⟨g, j, none⟩ u b (set_cel_ne h hc))
theorem own_map_ne {W : World} {b k : Nat} {S : List Txt} {B : Nat} {e : TypeId} {K m : Nat} {v : Value} {xs : List Value} (h : SetAt W b k S) (hr : W.ownsRow B e K v m xs) : v.ownBlock = none ∨ v.ownBlock ≠ some b := .inr (fun e => set_own_ne h hr e.symm)
/-- Room for what is left. -/
structure Room (st : PSt) (k : Nat) (r : Toks) : Prop where
  pr : st.p.pr.length + r.length ≤ 70000
  pd : st.p.pd.length + r.length ≤ 70000
  cl : st.p.cl.length + r.length ≤ 70000
  ru : st.p.ru.length + r.length ≤ 70000
  gr : st.p.gr.length + r.length ≤ 70000
  on : k + r.length ≤ 70000
theorem Room.less {st : PSt} {k : Nat} {r r1 : Toks} (h : Room st k r) (hl : r1.length ≤ r.length) : Room st k r1 :=
  ⟨Nat.le_trans (Nat.add_le_add_left hl _) h.pr, Nat.le_trans (Nat.add_le_add_left hl _) h.pd, Nat.le_trans (Nat.add_le_add_left hl _) h.cl, Nat.le_trans (Nat.add_le_add_left hl _) h.ru, Nat.le_trans (Nat.add_le_add_left hl _) h.gr, Nat.le_trans (Nat.add_le_add_left hl _) h.on⟩
structure StX (w0 W : World) (g : Nat) (lv : Value) (L : List Tk) (n : Nat) (st : PSt) (r : Toks) (c3 c4 c5 c6 c7 c8 c9 : Value) (C : List (Clr × Value)) (U : List (Rul × Value)) (G : List (Grn × Value)) (b k : Nat) (S : List Txt) : Prop where
  prs : Prs w0 W g lv L n r c3 c4 c5 c6 c7 c8 c9 (.map (some b))
  own : POwn W w0.heap.size c3 c4 c5 c6 c7 c8 c9 st.p C U G
  set : SetAt W b k S
  lo : w0.heap.size ≤ b
  sq : S.contains wQuota = st.q
  sb : S.contains wBudget = st.b
  room : Room st k r
/-- The parser with what it has read. -/
def St (w0 : World) (g : Nat) (lv : Value) (L : List Tk) (n : Nat) (st : PSt) (r : Toks) (W : World) : Prop := ∃ c3 c4 c5 c6 c7 c8 c9 C U G b k S, StX w0 W g lv L n st r c3 c4 c5 c6 c7 c8 c9 C U G b k S
/-- What a method that reads a part of a statement answers. -/
def SOut (w0 : World) (g : Nat) (lv : Value) (L : List Tk) (n : Nat) (R : Except PErr (PSt × Toks)) (e : Ending) (w' : World) : Prop := match R with
  | .error (k, er) => e = .panicked [FlawE (placeK L n k) er] ∧ Since w0 w'
  | .ok (st1, r1) => e = .returned (.tuple #[]) ∧ St w0 g lv L n st1 r1 w'
section
variable {w0 W W' w5 w6 : World} {g : Nat} {lv : Value} {L : List Tk} {n : Nat} {st : PSt} {r r1 : Toks} {c3 c4 c5 c6 c7 c8 c9 c10 : Value} {C : List (Clr × Value)} {U : List (Rul × Value)} {G : List (Grn × Value)} {b k : Nat} {S : List Txt}
theorem only_new0 (h : Prs w0 W g lv L n r c3 c4 c5 c6 c7 c8 c9 c10) (hk : OnlyG g W W') : Since w0 W' := hk.since h.sin (fun x hx => by rw [hx]; exact h.low)
theorem StX.only (h : StX w0 W g lv L n st r c3 c4 c5 c6 c7 c8 c9 C U G b k S) (hk : OnlyG g W W') (hp : Prs w0 W' g lv L n r1 c3 c4 c5 c6 c7 c8 c9 (.map (some b))) (hl : r1.length ≤ r.length) : StX w0 W' g lv L n st r1 c3 c4 c5 c6 c7 c8 c9 C U G b k S :=
  ⟨hp, h.own.only h.prs.par.cel hk, set_stand h.set (hk.block b (set_lt h.set) (set_cel_ne h.set h.prs.par.cel)), h.lo, h.sq, h.sb, h.room.less hl⟩
theorem StX.next (h : StX w0 W g lv L n st r c3 c4 c5 c6 c7 c8 c9 C U G b k S) (hs : Since W W') : StX w0 W' g lv L n st r c3 c4 c5 c6 c7 c8 c9 C U G b k S :=
  ⟨h.prs.next hs, h.own.next hs, h.set.next hs, h.lo, h.sq, h.sb, h.room⟩
/-- A row of the parser's own grows. -/
theorem prs_grow (h : Prs w0 w5 g lv L n r c3 c4 c5 c6 c7 c8 c9 c10) {e : TypeId} {K m : Nat} {v : Value} {xs : List Value} (hr : w5.ownsRow w0.heap.size e K v m xs) (hg : w5.grownBy w6 v.ownBlock) (he : e ≠ 83) (he2 : 63 ≠ e) : Prs w0 w6 g lv L n r c3 c4 c5 c6 c7 c8 c9 c10 :=
  ⟨⟨cel_own h.par.cel hr he hg, own_other h.par.row hr he2 hg, h.par.suf, h.par.len⟩, (Keep.of_grown (Z := fun b => w0.heap.size ≤ b) hg (fun b hb => (hr.lt b hb).1)).since h.sin (fun _ h => h), h.low, h.env, h.fit⟩
/-- A map's block grows. -/
theorem prs_map (h : Prs w0 w5 g lv L n r c3 c4 c5 c6 c7 c8 c9 c10) (hs : SetAt w5 b k S) (hlo : w0.heap.size ≤ b) (hg : w5.grownBy w6 (some b)) : Prs w0 w6 g lv L n r c3 c4 c5 c6 c7 c8 c9 c10 :=
  ⟨⟨h.par.cel.grown hg (fun e => set_cel_ne hs h.par.cel (by injection e with e; exact e.symm)), h.par.row.kept hg (own_map_ne hs h.par.row), h.par.suf, h.par.len⟩, (Keep.of_grown (Z := fun x => x = b) hg (fun x hx => by injection hx with hx; exact hx.symm)).since h.sin (fun x hx => by rw [hx]; exact hlo), h.low, h.env, h.fit⟩
theorem prs_set3 (h : Prs w0 w6 g lv L n r c3 c4 c5 c6 c7 c8 c9 c10) (u : Value) : Prs w0 (w6.setCell ⟨g, 3, none⟩ u) g lv L n r u c4 c5 c6 c7 c8 c9 c10 :=
  ⟨⟨h.par.cel.set rfl, own_setCell h.par.row h.par.cel (by decide), h.par.suf, h.par.len⟩, h.sin.setCell (p := ⟨g, 3, none⟩) h.low _, h.low, h.env, h.fit⟩
theorem prs_set4 (h : Prs w0 w6 g lv L n r c3 c4 c5 c6 c7 c8 c9 c10) (u : Value) : Prs w0 (w6.setCell ⟨g, 4, none⟩ u) g lv L n r c3 u c5 c6 c7 c8 c9 c10 :=
  ⟨⟨h.par.cel.set rfl, own_setCell h.par.row h.par.cel (by decide), h.par.suf, h.par.len⟩, h.sin.setCell (p := ⟨g, 4, none⟩) h.low _, h.low, h.env, h.fit⟩
theorem prs_set5 (h : Prs w0 w6 g lv L n r c3 c4 c5 c6 c7 c8 c9 c10) (u : Value) : Prs w0 (w6.setCell ⟨g, 5, none⟩ u) g lv L n r c3 c4 u c6 c7 c8 c9 c10 :=
  ⟨⟨h.par.cel.set rfl, own_setCell h.par.row h.par.cel (by decide), h.par.suf, h.par.len⟩, h.sin.setCell (p := ⟨g, 5, none⟩) h.low _, h.low, h.env, h.fit⟩
theorem prs_set6 (h : Prs w0 w6 g lv L n r c3 c4 c5 c6 c7 c8 c9 c10) (u : Value) : Prs w0 (w6.setCell ⟨g, 6, none⟩ u) g lv L n r c3 c4 c5 u c7 c8 c9 c10 :=
  ⟨⟨h.par.cel.set rfl, own_setCell h.par.row h.par.cel (by decide), h.par.suf, h.par.len⟩, h.sin.setCell (p := ⟨g, 6, none⟩) h.low _, h.low, h.env, h.fit⟩
theorem prs_set7 (h : Prs w0 w6 g lv L n r c3 c4 c5 c6 c7 c8 c9 c10) (u : Value) : Prs w0 (w6.setCell ⟨g, 7, none⟩ u) g lv L n r c3 c4 c5 c6 u c8 c9 c10 :=
  ⟨⟨h.par.cel.set rfl, own_setCell h.par.row h.par.cel (by decide), h.par.suf, h.par.len⟩, h.sin.setCell (p := ⟨g, 7, none⟩) h.low _, h.low, h.env, h.fit⟩
theorem prs_set8 (h : Prs w0 w6 g lv L n r c3 c4 c5 c6 c7 c8 c9 c10) (u : Value) : Prs w0 (w6.setCell ⟨g, 8, none⟩ u) g lv L n r c3 c4 c5 c6 c7 u c9 c10 :=
  ⟨⟨h.par.cel.set rfl, own_setCell h.par.row h.par.cel (by decide), h.par.suf, h.par.len⟩, h.sin.setCell (p := ⟨g, 8, none⟩) h.low _, h.low, h.env, h.fit⟩
theorem prs_set9 (h : Prs w0 w6 g lv L n r c3 c4 c5 c6 c7 c8 c9 c10) (u : Value) : Prs w0 (w6.setCell ⟨g, 9, none⟩ u) g lv L n r c3 c4 c5 c6 c7 c8 u c10 :=
  ⟨⟨h.par.cel.set rfl, own_setCell h.par.row h.par.cel (by decide), h.par.suf, h.par.len⟩, h.sin.setCell (p := ⟨g, 9, none⟩) h.low _, h.low, h.env, h.fit⟩
/-- The map grows. -/
theorem StX.upd (h : StX w0 w5 g lv L n st r c3 c4 c5 c6 c7 c8 c9 C U G b k S) {x : Txt} (hs : SetAt w6 b (k + 1) (S ++ [x])) (hg : w5.grownBy w6 (some b)) (st' : PSt) (hp : st'.p = st.p) (hq : (S ++ [x]).contains wQuota = st'.q) (hb : (S ++ [x]).contains wBudget = st'.b) (hk : k + 1 + r.length ≤ 70000) : StX w0 w6 g lv L n st' r c3 c4 c5 c6 c7 c8 c9 C U G b (k + 1) (S ++ [x]) := by
  have o := h.own
  have key : ∀ {e : TypeId} {K m : Nat} {v : Value} {xs : List Value}, w5.ownsRow w0.heap.size e K v m xs → w6.ownsRow w0.heap.size e K v m xs := fun hr => hr.kept hg (own_map_ne h.set hr)
  refine ⟨prs_map h.prs h.set h.lo hg, ?_, hs, h.lo, hq, hb, ⟨by rw [hp]; exact h.room.pr, by rw [hp]; exact h.room.pd, by rw [hp]; exact h.room.cl, by rw [hp]; exact h.room.ru, by rw [hp]; exact h.room.gr, hk⟩⟩
  rw [hp]
  exact ⟨key o.pr, key o.pd, ⟨key o.cl.row, fun p hp => key (o.cl.ins p hp), o.cl.apart⟩, ⟨key o.ru.row, fun p hp => key (o.ru.ins p hp), o.ru.apart⟩, ⟨key o.gr.row, fun p hp => key (o.gr.ins p hp), o.gr.apart⟩, o.eC, o.eU, o.eG, o.qu, o.bu, o.aC, o.aU⟩
theorem num_qu (h : StX w0 w6 g lv L n st r c3 c4 c5 c6 c7 c8 c9 C U G b k S) (v : Int) : St w0 g lv L n { st with p := { st.p with qu := v } } r (w6.setCell ⟨g, 6, none⟩ (.int .i64 v)) := by
  have o := h.own
  have key : ∀ {e : TypeId} {K m : Nat} {v : Value} {xs : List Value} {u : Value}, w6.ownsRow w0.heap.size e K v m xs → e ≠ 83 → (w6.setCell ⟨g, 6, none⟩ u).ownsRow w0.heap.size e K v m xs := fun hr he => own_setCell hr h.prs.par.cel he
  refine ⟨c3, c4, c5, _, c7, c8, c9, C, U, G, b, k, S, ⟨prs_set6 h.prs (.int .i64 v), ?_, set_setCell h.set h.prs.par.cel, h.lo, h.sq, h.sb, ⟨h.room.pr, h.room.pd, h.room.cl, h.room.ru, h.room.gr, h.room.on⟩⟩⟩
  exact ⟨key o.pr (by decide), key o.pd (by decide), ⟨key o.cl.row (by decide), fun p hp => key (o.cl.ins p hp) (by decide), o.cl.apart⟩, ⟨key o.ru.row (by decide), fun p hp => key (o.ru.ins p hp) (by decide), o.ru.apart⟩, ⟨key o.gr.row (by decide), fun p hp => key (o.gr.ins p hp) (by decide), o.gr.apart⟩, o.eC, o.eU, o.eG, rfl, o.bu, o.aC, o.aU⟩
theorem num_bu (h : StX w0 w6 g lv L n st r c3 c4 c5 c6 c7 c8 c9 C U G b k S) (v : Int) : St w0 g lv L n { st with p := { st.p with bu := v } } r (w6.setCell ⟨g, 7, none⟩ (.int .i64 v)) := by
  have o := h.own
  have key : ∀ {e : TypeId} {K m : Nat} {v : Value} {xs : List Value} {u : Value}, w6.ownsRow w0.heap.size e K v m xs → e ≠ 83 → (w6.setCell ⟨g, 7, none⟩ u).ownsRow w0.heap.size e K v m xs := fun hr he => own_setCell hr h.prs.par.cel he
  refine ⟨c3, c4, c5, c6, _, c8, c9, C, U, G, b, k, S, ⟨prs_set7 h.prs (.int .i64 v), ?_, set_setCell h.set h.prs.par.cel, h.lo, h.sq, h.sb, ⟨h.room.pr, h.room.pd, h.room.cl, h.room.ru, h.room.gr, h.room.on⟩⟩⟩
  exact ⟨key o.pr (by decide), key o.pd (by decide), ⟨key o.cl.row (by decide), fun p hp => key (o.cl.ins p hp) (by decide), o.cl.apart⟩, ⟨key o.ru.row (by decide), fun p hp => key (o.ru.ins p hp) (by decide), o.ru.apart⟩, ⟨key o.gr.row (by decide), fun p hp => key (o.gr.ins p hp) (by decide), o.gr.apart⟩, o.eC, o.eU, o.eG, o.qu, rfl, o.aC, o.aU⟩
theorem push_pr (h : StX w0 w5 g lv L n st r c3 c4 c5 c6 c7 c8 c9 C U G b k S) {x : Txt} {v6 : Value} (hown : w6.ownsRow w0.heap.size 9 1 v6 (st.p.pr.length + 1) ((st.p.pr.flatMap txtL) ++ txtL x)) (hg : w5.grownBy w6 c3.ownBlock) (hat : v6.ownBlock = c3.ownBlock ∨ v6.ownBlock = some w5.heap.size) (hm : st.p.pr.length + 1 + r.length ≤ 70000) :
    St w0 g lv L n { st with p := { st.p with pr := st.p.pr ++ [x] } } r (w6.setCell ⟨g, 3, none⟩ v6) := by
  have o := h.own
  have P6 := prs_grow h.prs o.pr hg (by decide) (by decide)
  have key : ∀ {e : TypeId} {K m : Nat} {v : Value} {xs : List Value}, w6.ownsRow w0.heap.size e K v m xs → e ≠ 83 → (w6.setCell ⟨g, 3, none⟩ v6).ownsRow w0.heap.size e K v m xs := fun hr he => own_setCell hr P6.par.cel he
  have oth : ∀ {e : TypeId} {K m : Nat} {v : Value} {xs : List Value}, w5.ownsRow w0.heap.size e K v m xs → e ≠ 9 → e ≠ 83 → (w6.setCell ⟨g, 3, none⟩ v6).ownsRow w0.heap.size e K v m xs := fun hr he hp => key (own_other hr o.pr he hg) hp
  refine ⟨v6, c4, c5, c6, c7, c8, c9, C, U, G, b, k, S, ⟨prs_set3 P6 v6, ?_, set_setCell (set_stand h.set (hg.block b (set_lt h.set) (set_own_ne h.set o.pr))) P6.par.cel, h.lo, h.sq, h.sb, ⟨by simp only [List.length_append, List.length_singleton]; exact hm, h.room.pd, h.room.cl, h.room.ru, h.room.gr, h.room.on⟩⟩⟩
  have haC : ∀ p ∈ C, apartV p.2 v6 := by
    intro p hp
    unfold apartV
    rcases hat with hat | hat
    · rw [hat]; exact o.aC p hp
    · cases hb : p.2.ownBlock with
      | none => exact .inl rfl
      | some q =>
        refine .inr fun e => ?_
        rw [hat] at e
        injection e with e
        have := ((o.cl.ins p hp).lt q hb).2
        omega
  exact ⟨by simpa [List.length_append, List.flatMap_append] using key hown (by decide), oth o.pd (by decide) (by decide), ⟨oth o.cl.row (by decide) (by decide), fun p hp => key ((o.cl.ins p hp).kept hg (o.aC p hp)) (by decide), o.cl.apart⟩, ⟨oth o.ru.row (by decide) (by decide), fun p hp => oth (o.ru.ins p hp) (by decide) (by decide), o.ru.apart⟩, ⟨oth o.gr.row (by decide) (by decide), fun p hp => oth (o.gr.ins p hp) (by decide) (by decide), o.gr.apart⟩, o.eC, o.eU, o.eG, o.qu, o.bu, haC, o.aU⟩
theorem push_pd (h : StX w0 w5 g lv L n st r c3 c4 c5 c6 c7 c8 c9 C U G b k S) {x : (Txt × Int)} {v6 : Value} (hown : w6.ownsRow w0.heap.size 36 2 v6 (st.p.pd.length + 1) ((st.p.pd.flatMap prdL) ++ prdL x)) (hg : w5.grownBy w6 c4.ownBlock) (_hat : v6.ownBlock = c4.ownBlock ∨ v6.ownBlock = some w5.heap.size) (hm : st.p.pd.length + 1 + r.length ≤ 70000) :
    St w0 g lv L n { st with p := { st.p with pd := st.p.pd ++ [x] } } r (w6.setCell ⟨g, 4, none⟩ v6) := by
  have o := h.own
  have P6 := prs_grow h.prs o.pd hg (by decide) (by decide)
  have key : ∀ {e : TypeId} {K m : Nat} {v : Value} {xs : List Value}, w6.ownsRow w0.heap.size e K v m xs → e ≠ 83 → (w6.setCell ⟨g, 4, none⟩ v6).ownsRow w0.heap.size e K v m xs := fun hr he => own_setCell hr P6.par.cel he
  have oth : ∀ {e : TypeId} {K m : Nat} {v : Value} {xs : List Value}, w5.ownsRow w0.heap.size e K v m xs → e ≠ 36 → e ≠ 83 → (w6.setCell ⟨g, 4, none⟩ v6).ownsRow w0.heap.size e K v m xs := fun hr he hp => key (own_other hr o.pd he hg) hp
  refine ⟨c3, v6, c5, c6, c7, c8, c9, C, U, G, b, k, S, ⟨prs_set4 P6 v6, ?_, set_setCell (set_stand h.set (hg.block b (set_lt h.set) (set_own_ne h.set o.pd))) P6.par.cel, h.lo, h.sq, h.sb, ⟨h.room.pr, by simp only [List.length_append, List.length_singleton]; exact hm, h.room.cl, h.room.ru, h.room.gr, h.room.on⟩⟩⟩
  exact ⟨oth o.pr (by decide) (by decide), by simpa [List.length_append, List.flatMap_append] using key hown (by decide), ⟨oth o.cl.row (by decide) (by decide), fun p hp => oth (o.cl.ins p hp) (by decide) (by decide), o.cl.apart⟩, ⟨oth o.ru.row (by decide) (by decide), fun p hp => oth (o.ru.ins p hp) (by decide) (by decide), o.ru.apart⟩, ⟨oth o.gr.row (by decide) (by decide), fun p hp => oth (o.gr.ins p hp) (by decide) (by decide), o.gr.apart⟩, o.eC, o.eU, o.eG, o.qu, o.bu, o.aC, o.aU⟩
theorem push_cl {r0 : Toks} (h : StX w0 w5 g lv L n st r c3 c4 c5 c6 c7 c8 c9 C U G b k S) {x : Clr} {v6 : Value} {u : Value} {W0 : World} (h0 : StX w0 W0 g lv L n st r0 c3 c4 c5 c6 c7 c8 c9 C U G b k S) (hu : w5.ownsRow W0.heap.size 9 1 u (x.2.length) (x.2.flatMap txtL)) (hown : w6.ownsRow w0.heap.size 38 2 v6 (C.length + 1) ((C.flatMap fun p => clrC p.1 p.2) ++ clrC x u)) (hg : w5.grownBy w6 c5.ownBlock) (_hat : v6.ownBlock = c5.ownBlock ∨ v6.ownBlock = some w5.heap.size) (hm : st.p.cl.length + 1 + r.length ≤ 70000) :
    St w0 g lv L n { st with p := { st.p with cl := st.p.cl ++ [x] } } r (w6.setCell ⟨g, 5, none⟩ v6) := by
  have o := h.own
  have P6 := prs_grow h.prs o.cl.row hg (by decide) (by decide)
  have key : ∀ {e : TypeId} {K m : Nat} {v : Value} {xs : List Value}, w6.ownsRow w0.heap.size e K v m xs → e ≠ 83 → (w6.setCell ⟨g, 5, none⟩ v6).ownsRow w0.heap.size e K v m xs := fun hr he => own_setCell hr P6.par.cel he
  have oth : ∀ {e : TypeId} {K m : Nat} {v : Value} {xs : List Value}, w5.ownsRow w0.heap.size e K v m xs → e ≠ 38 → e ≠ 83 → (w6.setCell ⟨g, 5, none⟩ v6).ownsRow w0.heap.size e K v m xs := fun hr he hp => key (own_other hr o.cl.row he hg) hp
  have hlo : w0.heap.size ≤ W0.heap.size := h0.prs.sin.size
  have hn : Nest w6 w0.heap.size 38 2 clrC 9 1 _ _ v6 (C ++ [(x, u)]) := Nest.push (W0 := W0) o.cl (fun p hp b hb => ((h0.own.cl.ins p hp).lt b hb).2) hu hlo hown rfl hg (by decide)
  have hlen : (C ++ [(x, u)]).map Prod.fst = st.p.cl ++ [x] := by rw [List.map_append, o.eC]; rfl
  refine ⟨c3, c4, v6, c6, c7, c8, c9, C ++ [(x, u)], U, G, b, k, S, ⟨prs_set5 P6 v6, ?_, set_setCell (set_stand h.set (hg.block b (set_lt h.set) (set_own_ne h.set o.cl.row))) P6.par.cel, h.lo, h.sq, h.sb, ⟨h.room.pr, h.room.pd, by simp only [List.length_append, List.length_singleton]; exact hm, h.room.ru, h.room.gr, h.room.on⟩⟩⟩
  have haC : ∀ p ∈ C ++ [(x, u)], apartV p.2 c3 := by
    intro p hp
    rcases List.mem_append.1 hp with hp | hp
    · exact o.aC p hp
    · have e : p = (x, u) := by simpa using hp
      subst e
      show u.ownBlock = none ∨ u.ownBlock ≠ c3.ownBlock
      cases hb : u.ownBlock with
      | none => exact .inl rfl
      | some q =>
        refine .inr fun e => ?_
        have l1 := (hu.lt q hb).1
        have l2 := (h0.own.pr.lt q e.symm).2
        omega
  exact ⟨oth o.pr (by decide) (by decide), oth o.pd (by decide) (by decide), ⟨key hn.row (by decide), fun p hp => key (hn.ins p hp) (by decide), hn.apart⟩, ⟨oth o.ru.row (by decide) (by decide), fun p hp => oth (o.ru.ins p hp) (by decide) (by decide), o.ru.apart⟩, ⟨oth o.gr.row (by decide) (by decide), fun p hp => oth (o.gr.ins p hp) (by decide) (by decide), o.gr.apart⟩, hlen, o.eU, o.eG, o.qu, o.bu, haC, o.aU⟩
theorem push_ru {r0 : Toks} (h : StX w0 w5 g lv L n st r c3 c4 c5 c6 c7 c8 c9 C U G b k S) {x : Rul} {v6 : Value} {u : Value} {W0 : World} (h0 : StX w0 W0 g lv L n st r0 c3 c4 c5 c6 c7 c8 c9 C U G b k S) (hu : w5.ownsRow W0.heap.size 44 11 u (x.2.length) (x.2.flatMap atmL)) (hown : w6.ownsRow w0.heap.size 47 12 v6 (U.length + 1) ((U.flatMap fun p => rulC p.1 p.2) ++ rulC x u)) (hg : w5.grownBy w6 c8.ownBlock) (_hat : v6.ownBlock = c8.ownBlock ∨ v6.ownBlock = some w5.heap.size) (hm : st.p.ru.length + 1 + r.length ≤ 70000) :
    St w0 g lv L n { st with p := { st.p with ru := st.p.ru ++ [x] } } r (w6.setCell ⟨g, 8, none⟩ v6) := by
  have o := h.own
  have P6 := prs_grow h.prs o.ru.row hg (by decide) (by decide)
  have key : ∀ {e : TypeId} {K m : Nat} {v : Value} {xs : List Value}, w6.ownsRow w0.heap.size e K v m xs → e ≠ 83 → (w6.setCell ⟨g, 8, none⟩ v6).ownsRow w0.heap.size e K v m xs := fun hr he => own_setCell hr P6.par.cel he
  have oth : ∀ {e : TypeId} {K m : Nat} {v : Value} {xs : List Value}, w5.ownsRow w0.heap.size e K v m xs → e ≠ 47 → e ≠ 83 → (w6.setCell ⟨g, 8, none⟩ v6).ownsRow w0.heap.size e K v m xs := fun hr he hp => key (own_other hr o.ru.row he hg) hp
  have hlo : w0.heap.size ≤ W0.heap.size := h0.prs.sin.size
  have hn : Nest w6 w0.heap.size 47 12 rulC 44 11 _ _ v6 (U ++ [(x, u)]) := Nest.push (W0 := W0) o.ru (fun p hp b hb => ((h0.own.ru.ins p hp).lt b hb).2) hu hlo hown rfl hg (by decide)
  have hlen : (U ++ [(x, u)]).map Prod.fst = st.p.ru ++ [x] := by rw [List.map_append, o.eU]; rfl
  refine ⟨c3, c4, c5, c6, c7, v6, c9, C, U ++ [(x, u)], G, b, k, S, ⟨prs_set8 P6 v6, ?_, set_setCell (set_stand h.set (hg.block b (set_lt h.set) (set_own_ne h.set o.ru.row))) P6.par.cel, h.lo, h.sq, h.sb, ⟨h.room.pr, h.room.pd, h.room.cl, by simp only [List.length_append, List.length_singleton]; exact hm, h.room.gr, h.room.on⟩⟩⟩
  have haU : ∀ p ∈ U ++ [(x, u)], ∀ q ∈ G, apartV p.2 q.2 := by
    intro p hp q hq
    rcases List.mem_append.1 hp with hh | hh
    · exact o.aU p hh q hq
    · have e0 : p = (x, u) := by simpa using hh
      have e1 : p.2 = u := by rw [e0]
      unfold apartV
      cases hb : p.2.ownBlock with
      | none => exact .inl rfl
      | some z =>
        refine .inr fun e => ?_
        have l1 := (hu.lt z (by rw [← e1]; exact hb)).1
        have l2 := ((h0.own.gr.ins q hq).lt z e.symm).2
        omega
  exact ⟨oth o.pr (by decide) (by decide), oth o.pd (by decide) (by decide), ⟨oth o.cl.row (by decide) (by decide), fun p hp => oth (o.cl.ins p hp) (by decide) (by decide), o.cl.apart⟩, ⟨key hn.row (by decide), fun p hp => key (hn.ins p hp) (by decide), hn.apart⟩, ⟨oth o.gr.row (by decide) (by decide), fun p hp => oth (o.gr.ins p hp) (by decide) (by decide), o.gr.apart⟩, o.eC, hlen, o.eG, o.qu, o.bu, o.aC, haU⟩
theorem push_gr {r0 : Toks} (h : StX w0 w5 g lv L n st r c3 c4 c5 c6 c7 c8 c9 C U G b k S) {x : Grn} {v6 : Value} {u : Value} {W0 : World} (h0 : StX w0 W0 g lv L n st r0 c3 c4 c5 c6 c7 c8 c9 C U G b k S) (hu : w5.ownsRow W0.heap.size 44 11 u (x.2.2.length) (x.2.2.flatMap atmL)) (hown : w6.ownsRow w0.heap.size 49 13 v6 (G.length + 1) ((G.flatMap fun p => grnC p.1 p.2) ++ grnC x u)) (hg : w5.grownBy w6 c9.ownBlock) (_hat : v6.ownBlock = c9.ownBlock ∨ v6.ownBlock = some w5.heap.size) (hm : st.p.gr.length + 1 + r.length ≤ 70000) :
    St w0 g lv L n { st with p := { st.p with gr := st.p.gr ++ [x] } } r (w6.setCell ⟨g, 9, none⟩ v6) := by
  have o := h.own
  have P6 := prs_grow h.prs o.gr.row hg (by decide) (by decide)
  have key : ∀ {e : TypeId} {K m : Nat} {v : Value} {xs : List Value}, w6.ownsRow w0.heap.size e K v m xs → e ≠ 83 → (w6.setCell ⟨g, 9, none⟩ v6).ownsRow w0.heap.size e K v m xs := fun hr he => own_setCell hr P6.par.cel he
  have oth : ∀ {e : TypeId} {K m : Nat} {v : Value} {xs : List Value}, w5.ownsRow w0.heap.size e K v m xs → e ≠ 49 → e ≠ 83 → (w6.setCell ⟨g, 9, none⟩ v6).ownsRow w0.heap.size e K v m xs := fun hr he hp => key (own_other hr o.gr.row he hg) hp
  have hlo : w0.heap.size ≤ W0.heap.size := h0.prs.sin.size
  have hn : Nest w6 w0.heap.size 49 13 grnC 44 11 _ _ v6 (G ++ [(x, u)]) := Nest.push (W0 := W0) o.gr (fun p hp b hb => ((h0.own.gr.ins p hp).lt b hb).2) hu hlo hown rfl hg (by decide)
  have hlen : (G ++ [(x, u)]).map Prod.fst = st.p.gr ++ [x] := by rw [List.map_append, o.eG]; rfl
  refine ⟨c3, c4, c5, c6, c7, c8, v6, C, U, G ++ [(x, u)], b, k, S, ⟨prs_set9 P6 v6, ?_, set_setCell (set_stand h.set (hg.block b (set_lt h.set) (set_own_ne h.set o.gr.row))) P6.par.cel, h.lo, h.sq, h.sb, ⟨h.room.pr, h.room.pd, h.room.cl, h.room.ru, by simp only [List.length_append, List.length_singleton]; exact hm, h.room.on⟩⟩⟩
  have haU : ∀ p ∈ U, ∀ q ∈ G ++ [(x, u)], apartV p.2 q.2 := by
    intro p hp q hq
    rcases List.mem_append.1 hq with hh | hh
    · exact o.aU p hp q hh
    · have e0 : q = (x, u) := by simpa using hh
      have e1 : q.2 = u := by rw [e0]
      unfold apartV
      cases hb : p.2.ownBlock with
      | none => exact .inl rfl
      | some z =>
        refine .inr fun e => ?_
        have l1 := (hu.lt z (by rw [← e1]; exact e.symm)).1
        have l2 := ((h0.own.ru.ins p hp).lt z hb).2
        omega
  exact ⟨oth o.pr (by decide) (by decide), oth o.pd (by decide) (by decide), ⟨oth o.cl.row (by decide) (by decide), fun p hp => oth (o.cl.ins p hp) (by decide) (by decide), o.cl.apart⟩, ⟨oth o.ru.row (by decide) (by decide), fun p hp => oth (o.ru.ins p hp) (by decide) (by decide), o.ru.apart⟩, ⟨key hn.row (by decide), fun p hp => key (hn.ins p hp) (by decide), hn.apart⟩, o.eC, o.eU, hlen, o.qu, o.bu, o.aC, haU⟩
end
end Go.Proofs.YtnfjjckbgnieeaaGreatDoor

namespace Go.Proofs.YtnfjjckbgnieeaaGreatDoor
open Go.RowKit

/-- What single answers: the number; the word is told. -/
def NOut (w0 : World) (g : Nat) (lv : Value) (L : List Tk) (n : Nat) (st1 : PSt) (c3 c4 c5 c6 c7 c8 c9 : Value) (C : List (Clr × Value)) (U : List (Rul × Value)) (G : List (Grn × Value)) (b k : Nat) (S : List Txt) (R : Except PErr (Nat × Toks)) (e : Ending) (w' : World) : Prop := match R with
  | .error (k, er) => e = .panicked [FlawE (placeK L n k) er] ∧ Since w0 w'
  | .ok (m, r1) => e = .returned (.int .i64 (m : Int)) ∧ StX w0 w' g lv L n st1 r1 c3 c4 c5 c6 c7 c8 c9 C U G b k S
set_option maxHeartbeats 4000000 in
set_option maxRecDepth 100000 in
theorem psingle_any {w0 : World} {g : Nat} {lv : Value} {L : List Tk} {n : Nat} {st : PSt} {c3 c4 c5 c6 c7 c8 c9 : Value} {C : List (Clr × Value)} {U : List (Rul × Value)} {G : List (Grn × Value)} {b k : Nat} {S : List Txt} (x : Txt) (hx : x = wQuota ∨ x = wBudget) (st1 : PSt) (hp1 : st1.p = st.p) (hq1 : (S ++ [x]).contains wQuota = st1.q) (hb1 : (S ++ [x]).contains wBudget = st1.b) (r : Toks) (w : World) (h : StX w0 w g lv L n st r c3 c4 c5 c6 c7 c8 c9 C U G b k S) (hpre : ∃ p y, txtsK L = p ++ y :: r) (hk : k + 1 + r.length ≤ 70000) :
    Calls Tryz.prog 89 #[.pointer (some ⟨g, 0, none⟩), .string ⟨x.toArray⟩] w (NOut w0 g lv L n st1 c3 c4 c5 c6 c7 c8 c9 C U G b (k + 1) (S ++ [x]) (singleT (S.contains x) r)) := by
  obtain ⟨was, hwas⟩ : ∃ b, Hid (b = S.contains x) := ⟨_, rfl⟩
  rw [← hwas.out]
  have hxl : x.length ≤ maxLen := by rcases hx with rfl | rfl <;> decide
  obtain ⟨p, y, hpy⟩ := hpre
  have hlen : L.length = p.length + (r.length + 1) := by have := congrArg List.length hpy; simpa [txtsK] using this
  obtain ⟨i, hi⟩ : ∃ i, Hid (i = L.length - r.length) := ⟨_, rfl⟩
  have h65 := h.prs.par.len
  have hwi : wrap64 ((i : Int) - 1) = ((L.length - (y :: r).length : Nat) : Int) := by
    rw [IntWalk.wrap64_in _ (by rw [hi.out]; omega), hi.out, List.length_cons]; omega
  have HF := Lib.hid (fun W (hW : Since w W) => pfail_at (L.length - (y :: r).length) 5 W (h.prs.par.next hW))
  rw [place_of hpy] at HF
  obtain ⟨j, hj⟩ : ∃ j, Hid (j = L.length - (y :: r).length) := ⟨_, rfl⟩
  rw [← hj.out] at HF hwi
  have hgl := h.prs.par.cel.lt
  have c1 : (w.alloc (.cells #[] 135)).cell? ⟨g, 1, none⟩ = some (.int .i64 (i : Int)) := by rw [hi.out]; exact (h.prs.par.cel.next ((Since.refl w).alloc _)).cell 1
  have c10 : w.cell? ⟨g, 10, none⟩ = some (.map (some b)) := h.prs.par.cel.cell 10
  have HX := Lib.hid h
  have HS := Lib.hid h.set
  have HKL : Hid (k < maxLen) := by show _ < _; unfold maxLen; have := h.room.on; omega
  have HU : Hid (∀ w1 w2, Since w w1 → SetAt w2 b (k + 1) (S ++ [x]) → w1.grownBy w2 (some b) → StX w0 w2 g lv L n st1 r c3 c4 c5 c6 c7 c8 c9 C U G b (k + 1) (S ++ [x])) := fun w1 w2 hs h1 h2 => (h.next hs).upd h1 h2 st1 hp1 hq1 hb1 hk
  clear hlen hpy h65 hi hx h hp1 hq1 hb1 hk
  cases was with
  | true =>
    have hr : Hid (singleT true r = .error (r.length + 1, 5)) := rfl
    rw [hr.out]
    have HF2 : Hid (∀ W, Since w W → Calls Tryz.prog 74 #[.pointer (some ⟨g, 0, none⟩), .int .i64 (j : Int), .int .i64 5] W fun e w' => e = .panicked [FlawE (placeK L n (r.length + 1)) 5] ∧ Since W w') := HF.out
    have HSin := Lib.hid HX.out.prs.sin
    clear HF hr HU HX hj
    go_enter Tryz.func89, Tryz.ntmps89
    go_wp2_with (at_lookup; refine lookup_set _ rfl (.tmp 11) (.tmp 12) rfl b k S rfl HS.out x hxl rfl true hwas.out.symm ?_)
    refine (HF2.out _ ((Since.refl w).alloc _)).mono ?_
    rintro e w2 ⟨rfl, hb⟩
    go_wp2_with fail
    exact ⟨rfl, rfl, HSin.out.trans (((Since.refl w).alloc _).trans hb)⟩
  | false =>
    have hr : Hid (singleT false r = numT r) := rfl
    rw [hr.out]
    have c10b : (w.alloc (.cells #[] 135)).cell? ⟨g, 10, none⟩ = some (.map (some b)) := (HX.out.prs.par.cel.next ((Since.refl w).alloc _)).cell 10
    have HSb := Lib.hid (HS.out.next ((Since.refl w).alloc (.cells #[] 135)))
    clear HF hr hwi hj
    obtain ⟨R, hR⟩ : ∃ R, Hid (R = numT r) := ⟨_, rfl⟩
    obtain ⟨K, hK⟩ : ∃ K : Ending → World → Prop, Hid (K = NOut w0 g lv L n st1 c3 c4 c5 c6 c7 c8 c9 C U G b (k + 1) (S ++ [x]) R) := ⟨_, rfl⟩
    have hbad : Hid (∀ k er w', R = .error (k, er) → Since w0 w' → K (.panicked [FlawE (placeK L n k) er]) w') := fun k er w' e h => by rw [hK.out, e]; exact ⟨rfl, h⟩
    have hgood : Hid (∀ (m : Nat) r1 w', R = .ok (m, r1) → StX w0 w' g lv L n st1 r1 c3 c4 c5 c6 c7 c8 c9 C U G b (k + 1) (S ++ [x]) → K (.returned (.int .i64 (m : Int))) w') := fun m r1 w' e h => by rw [hK.out, e]; exact ⟨rfl, h⟩
    rw [← hR.out, ← hK.out]
    clear hK c1
    go_enter Tryz.func89, Tryz.ntmps89
    go_wp2_with (first | (at_lookup; refine lookup_set _ rfl (.tmp 11) (.tmp 12) rfl b k S rfl HS.out x hxl rfl false hwas.out.symm ?_) | (at_mapUpdate; refine update_set _ rfl (.tmp 27) (.tmp 28) (.tmp 29) rfl b k S rfl HSb.out HKL.out x hxl rfl rfl ?_; intro w2 ho2 hg2))
    have hX2 := HU.out _ _ ((Since.refl w).alloc _) ho2 hg2
    have HN := Lib.hid (pnumber_any hX2.prs)
    have HX2 := Lib.hid hX2
    clear HU HSb HS c10 c10b ho2 hg2 hX2 HX HKL
    cases hc : numT r with
    | error x =>
      obtain ⟨k1, er⟩ := x
      have hH := HN.out
      rw [hc] at hH
      have HC2 : Hid (Calls Tryz.prog 86 #[.pointer (some ⟨g, 0, none⟩)] w2 fun e w' => e = .panicked [FlawE (placeK L n k1) er] ∧ OnlyG g w2 w') := hH
      have HR1 : Hid (R = .error (k1, er)) := by show _ = _; rw [hR.out, hc]
      have HS : Hid (∀ w', OnlyG g w2 w' → Since w0 w') := fun w' hk => only_new0 HX2.out.prs hk
      clear HN hH hR hc hgood HX2
      go_wp2_with fail
      refine HC2.out.mono ?_
      rintro e wz ⟨rfl, hk⟩
      go_wp2_with fail
      exact ⟨rfl, hbad.out _ _ _ HR1.out (HS.out _ hk)⟩
    | ok x =>
      obtain ⟨m, r1⟩ := x
      have hH := HN.out
      rw [hc] at hH
      have HC2 : Hid (Calls Tryz.prog 86 #[.pointer (some ⟨g, 0, none⟩)] w2 fun e w' => e = .returned (.int .i64 (m : Int)) ∧ Prs w0 w' g lv L n r1 c3 c4 c5 c6 c7 c8 c9 (.map (some b)) ∧ OnlyG g w2 w') := hH
      have HR1 : Hid (R = .ok (m, r1)) := by show _ = _; rw [hR.out, hc]
      have HL : Hid (r1.length ≤ r.length) := by show _ ≤ _; obtain ⟨p, hp⟩ := numT_eats hc; rw [hp, List.length_append]; omega
      clear HN hH hR hc hbad
      go_wp2_with fail
      refine HC2.out.mono ?_
      rintro e w3 ⟨rfl, hp3, hk3⟩
      have hf := Lib.hid (HX2.out.only hk3 hp3 HL.out)
      clear HX2 hp3 hk3 HC2
      go_wp2_with fail
      exact hgood.out _ _ _ HR1.out hf.out
set_option maxHeartbeats 4000000 in
set_option maxRecDepth 100000 in
theorem pquota_any {w0 : World} {g : Nat} {lv : Value} {L : List Tk} {n : Nat} {st : PSt} {c3 c4 c5 c6 c7 c8 c9 : Value} {C : List (Clr × Value)} {U : List (Rul × Value)} {G : List (Grn × Value)} {b k : Nat} {S : List Txt} (r : Toks) (w : World) (h : StX w0 w g lv L n st r c3 c4 c5 c6 c7 c8 c9 C U G b k S) (hpre : ∃ p y, txtsK L = p ++ y :: r) (hk : k + 1 + r.length ≤ 70000) :
    Calls Tryz.prog 62 #[.pointer (some ⟨g, 0, none⟩)] w (SOut w0 g lv L n (quotaT st r)) := by
  obtain ⟨R, hR⟩ : ∃ R, Hid (R = quotaT st r) := ⟨_, rfl⟩
  obtain ⟨K, hK⟩ : ∃ K : Ending → World → Prop, Hid (K = SOut w0 g lv L n R) := ⟨_, rfl⟩
  have hbad : Hid (∀ k er w', R = .error (k, er) → Since w0 w' → K (.panicked [FlawE (placeK L n k) er]) w') := fun k er w' e h => by rw [hK.out, e]; exact ⟨rfl, h⟩
  have hgood : Hid (∀ st1 r1 w', R = .ok (st1, r1) → St w0 g lv L n st1 r1 w' → K (.returned (.tuple #[])) w') := fun st1 r1 w' e h => by rw [hK.out, e]; exact ⟨rfl, h⟩
  rw [← hR.out, ← hK.out]
  clear hK
  have hq1 : (S ++ [wQuota]).contains wQuota = true := by simp
  have hb1 : (S ++ [wQuota]).contains wBudget = st.b := by rw [← h.sb]; simp [wQuota, wBudget]
  have HC := Lib.hid (psingle_any (st := st) wQuota (.inl rfl) { st with q := true } rfl hq1 hb1 r w h hpre hk)
  rw [h.sq] at HC
  have hR1 := hR.out
  rw [quotaT] at hR1
  have HR := Lib.hid hR1
  clear hR hR1 h hpre hk hq1 hb1
  cases hc : singleT st.q r with
  | error x =>
    obtain ⟨k1, er⟩ := x
    have hH := HC.out
    rw [hc] at hH
    have HC2 : Hid (Calls Tryz.prog 89 #[.pointer (some ⟨g, 0, none⟩), .string ⟨#[113, 117, 111, 116, 97]⟩] w fun e w' => e = .panicked [FlawE (placeK L n k1) er] ∧ Since w0 w') := hH
    have hR1 := HR.out
    rw [hc] at hR1
    have HR1 : Hid (R = .error (k1, er)) := hR1
    clear HC hH hR1 HR hc hgood
    go_enter Tryz.func62, Tryz.ntmps62
    go_wp2_with fail
    refine HC2.out.mono ?_
    rintro e wz ⟨rfl, hk⟩
    go_wp2_with fail
    exact ⟨rfl, hbad.out _ _ _ HR1.out hk⟩
  | ok x =>
    obtain ⟨m, r1⟩ := x
    have hH := HC.out
    rw [hc] at hH
    have HC2 : Hid (Calls Tryz.prog 89 #[.pointer (some ⟨g, 0, none⟩), .string ⟨#[113, 117, 111, 116, 97]⟩] w fun e w' => e = .returned (.int .i64 (m : Int)) ∧ StX w0 w' g lv L n { st with q := true } r1 c3 c4 c5 c6 c7 c8 c9 C U G b (k + 1) (S ++ [wQuota])) := hH
    have hR1 := HR.out
    rw [hc] at hR1
    have HR1 : Hid (R = .ok ({ st with p := { st.p with qu := m }, q := true }, r1)) := hR1
    clear HC hH hR1 HR hc hbad
    go_enter Tryz.func62, Tryz.ntmps62
    go_wp2_with fail
    refine HC2.out.mono ?_
    rintro e w2 ⟨rfl, hX⟩
    have hcc := hX.prs.par.cel.cell 6
    have hcf := hX.prs.par.cel.free 6
    have hcl := hX.prs.par.cel.lt
    have hcell : w2.cell? ⟨g, 6, none⟩ = some (.int .i64 st.p.qu) := by
      have e := hX.own.qu
      rw [← e]; exact hcc
    have hf := Lib.hid (num_qu hX (m : Int))
    clear hX HC2 hcc
    go_wp2_with fail
    go_end0
    exact hgood.out _ _ _ HR1.out hf.out
set_option maxHeartbeats 4000000 in
set_option maxRecDepth 100000 in
theorem pbudget_any {w0 : World} {g : Nat} {lv : Value} {L : List Tk} {n : Nat} {st : PSt} {c3 c4 c5 c6 c7 c8 c9 : Value} {C : List (Clr × Value)} {U : List (Rul × Value)} {G : List (Grn × Value)} {b k : Nat} {S : List Txt} (r : Toks) (w : World) (h : StX w0 w g lv L n st r c3 c4 c5 c6 c7 c8 c9 C U G b k S) (hpre : ∃ p y, txtsK L = p ++ y :: r) (hk : k + 1 + r.length ≤ 70000) :
    Calls Tryz.prog 63 #[.pointer (some ⟨g, 0, none⟩)] w (SOut w0 g lv L n (budgetT st r)) := by
  obtain ⟨R, hR⟩ : ∃ R, Hid (R = budgetT st r) := ⟨_, rfl⟩
  obtain ⟨K, hK⟩ : ∃ K : Ending → World → Prop, Hid (K = SOut w0 g lv L n R) := ⟨_, rfl⟩
  have hbad : Hid (∀ k er w', R = .error (k, er) → Since w0 w' → K (.panicked [FlawE (placeK L n k) er]) w') := fun k er w' e h => by rw [hK.out, e]; exact ⟨rfl, h⟩
  have hgood : Hid (∀ st1 r1 w', R = .ok (st1, r1) → St w0 g lv L n st1 r1 w' → K (.returned (.tuple #[])) w') := fun st1 r1 w' e h => by rw [hK.out, e]; exact ⟨rfl, h⟩
  rw [← hR.out, ← hK.out]
  clear hK
  have hq1 : (S ++ [wBudget]).contains wQuota = st.q := by rw [← h.sq]; simp [wQuota, wBudget]
  have hb1 : (S ++ [wBudget]).contains wBudget = true := by simp
  have HC := Lib.hid (psingle_any (st := st) wBudget (.inr rfl) { st with b := true } rfl hq1 hb1 r w h hpre hk)
  rw [h.sb] at HC
  have hR1 := hR.out
  rw [budgetT] at hR1
  have HR := Lib.hid hR1
  clear hR hR1 h hpre hk hq1 hb1
  cases hc : singleT st.b r with
  | error x =>
    obtain ⟨k1, er⟩ := x
    have hH := HC.out
    rw [hc] at hH
    have HC2 : Hid (Calls Tryz.prog 89 #[.pointer (some ⟨g, 0, none⟩), .string ⟨#[98, 117, 100, 103, 101, 116]⟩] w fun e w' => e = .panicked [FlawE (placeK L n k1) er] ∧ Since w0 w') := hH
    have hR1 := HR.out
    rw [hc] at hR1
    have HR1 : Hid (R = .error (k1, er)) := hR1
    clear HC hH hR1 HR hc hgood
    go_enter Tryz.func63, Tryz.ntmps63
    go_wp2_with fail
    refine HC2.out.mono ?_
    rintro e wz ⟨rfl, hk⟩
    go_wp2_with fail
    exact ⟨rfl, hbad.out _ _ _ HR1.out hk⟩
  | ok x =>
    obtain ⟨m, r1⟩ := x
    have hH := HC.out
    rw [hc] at hH
    have HC2 : Hid (Calls Tryz.prog 89 #[.pointer (some ⟨g, 0, none⟩), .string ⟨#[98, 117, 100, 103, 101, 116]⟩] w fun e w' => e = .returned (.int .i64 (m : Int)) ∧ StX w0 w' g lv L n { st with b := true } r1 c3 c4 c5 c6 c7 c8 c9 C U G b (k + 1) (S ++ [wBudget])) := hH
    have hR1 := HR.out
    rw [hc] at hR1
    have HR1 : Hid (R = .ok ({ st with p := { st.p with bu := m }, b := true }, r1)) := hR1
    clear HC hH hR1 HR hc hbad
    go_enter Tryz.func63, Tryz.ntmps63
    go_wp2_with fail
    refine HC2.out.mono ?_
    rintro e w2 ⟨rfl, hX⟩
    have hcc := hX.prs.par.cel.cell 7
    have hcf := hX.prs.par.cel.free 7
    have hcl := hX.prs.par.cel.lt
    have hcell : w2.cell? ⟨g, 7, none⟩ = some (.int .i64 st.p.bu) := by
      have e := hX.own.bu
      rw [← e]; exact hcc
    have hf := Lib.hid (num_bu hX (m : Int))
    clear hX HC2 hcc
    go_wp2_with fail
    go_end0
    exact hgood.out _ _ _ HR1.out hf.out
end Go.Proofs.YtnfjjckbgnieeaaGreatDoor

namespace Go.Proofs.YtnfjjckbgnieeaaGreatDoor
open Go.RowKit

theorem info_pr : (Tryz.prog.info? 9).map (fun i => (i.zero, i.size, i.bytes)) = some (some (.string ByteArray.empty), 1, 16) := by kernel_rfl
theorem st_pr {o : Oper} {x y : Operand} {ev : Operand → Value} {g k : Nat} {a : Option Addr} {n c : Nat} {cs : Array Value} {T : TypeId} (ho : o.op = Op.store 23 x y) (hx : ev x = .pointer (some ⟨g, k, none⟩)) (hy : ev y = .slice a n c) (W : World) (h : Cel W g cs T) (hk : (cs[k]?).isSome = true) :
    (execOp ev o).run Tryz.prog W = .ok .skip (W.setCell ⟨g, k, none⟩ (.slice a n c)) := by
  obtain ⟨u, hu⟩ := Option.isSome_iff_exists.1 hk
  have h1 : W.cell? ⟨g, k, none⟩ = some u := (h.cell k).trans hu
  have h2 := h.free k
  simp only [execOp, ho]
  go_simp
theorem info_pd : (Tryz.prog.info? 36).map (fun i => (i.zero, i.size, i.bytes)) = some (some (.agg #[.string ByteArray.empty, .int .i64 0]), 2, 24) := by kernel_rfl
theorem st_pd {o : Oper} {x y : Operand} {ev : Operand → Value} {g k : Nat} {a : Option Addr} {n c : Nat} {cs : Array Value} {T : TypeId} (ho : o.op = Op.store 24 x y) (hx : ev x = .pointer (some ⟨g, k, none⟩)) (hy : ev y = .slice a n c) (W : World) (h : Cel W g cs T) (hk : (cs[k]?).isSome = true) :
    (execOp ev o).run Tryz.prog W = .ok .skip (W.setCell ⟨g, k, none⟩ (.slice a n c)) := by
  obtain ⟨u, hu⟩ := Option.isSome_iff_exists.1 hk
  have h1 : W.cell? ⟨g, k, none⟩ = some u := (h.cell k).trans hu
  have h2 := h.free k
  simp only [execOp, ho]
  go_simp
set_option maxHeartbeats 4000000 in
set_option maxRecDepth 100000 in
theorem pprincipal_any {w0 : World} {g : Nat} {lv : Value} {L : List Tk} {n : Nat} {st : PSt} {c3 c4 c5 c6 c7 c8 c9 : Value} {C : List (Clr × Value)} {U : List (Rul × Value)} {G : List (Grn × Value)} {b k : Nat} {S : List Txt} (r : Toks) (w : World) (h : StX w0 w g lv L n st r c3 c4 c5 c6 c7 c8 c9 C U G b k S) :
    Calls Tryz.prog 59 #[.pointer (some ⟨g, 0, none⟩)] w (SOut w0 g lv L n (principalT st r)) := by
  obtain ⟨R, hR⟩ : ∃ R, Hid (R = principalT st r) := ⟨_, rfl⟩
  obtain ⟨K, hK⟩ : ∃ K : Ending → World → Prop, Hid (K = SOut w0 g lv L n R) := ⟨_, rfl⟩
  have hbad : Hid (∀ k er w', R = .error (k, er) → Since w0 w' → K (.panicked [FlawE (placeK L n k) er]) w') := fun k er w' e h => by rw [hK.out, e]; exact ⟨rfl, h⟩
  have hgood : Hid (∀ st1 r1 w', R = .ok (st1, r1) → St w0 g lv L n st1 r1 w' → K (.returned (.tuple #[])) w') := fun st1 r1 w' e h => by rw [hK.out, e]; exact ⟨rfl, h⟩
  rw [← hR.out, ← hK.out]
  clear hK
  obtain ⟨i5, hi5, hz0, hz1, hz2⟩ := info_parts info_pr
  have I5 := Lib.hid (And.intro hi5 (And.intro hz0 (And.intro hz1 hz2)))
  obtain ⟨va, vc, rfl⟩ := own_slice h.own.pr
  have HD := Lib.hid (h.next (Since.refl w).drew)
  have HC := Lib.hid (pprinc_here HD.out.prs)
  have hc0 : w.drew.cell? ⟨g, 3, none⟩ = some (.slice va st.p.pr.length vc) := HD.out.prs.par.cel.cell 3
  have HLL : Hid (st.p.pr.length + r.length ≤ 70000) := h.room.pr
  have HR : Hid (R = match nameT principalB r with
    | .error e => .error e
    | .ok (x, r1) => .ok ({ st with p := { st.p with pr := st.p.pr ++ [x] } }, r1)) := hR
  clear hi5 hz0 hz1 hz2 h hR
  cases hc : nameT principalB r with
  | error x =>
    obtain ⟨k1, er⟩ := x
    have hH := HC.out
    rw [hc] at hH
    have HC2 : Hid (Calls Tryz.prog 83 #[.pointer (some ⟨g, 0, none⟩), .func (.func 84) #[] #[]] w.drew fun e w' => e = .panicked [FlawE (placeK L n k1) er] ∧ OnlyG g w.drew w') := hH
    have hR1 := HR.out
    rw [hc] at hR1
    have HR1 : Hid (R = .error (k1, er)) := hR1
    have HS : Hid (∀ w', OnlyG g w.drew w' → Since w0 w') := fun w' hk => only_new0 HD.out.prs hk
    clear HC hH hR1 HR hc hgood HD HLL I5
    go_enter Tryz.func59, Tryz.ntmps59
    go_upto_region 0 with (fail)
    refine hx_begin (S := fun _ => True) (by kernel_rfl) trivial (by kernel_rfl) (fun _ _ _ _ _ h => h) (fun hns hQ => ?_)
    refine hx_take (i := 0) (oi := _) (v := .pointer (some ⟨g, 0, none⟩)) rfl rfl hns (by kernel_rfl) (by kernel_rfl) hQ (by kernel_rfl) (fun _ _ => by kernel_rfl) trivial ?_
    refine hx_take (i := 1) (oi := _) (v := .pointer (some ⟨g, 0, none⟩)) rfl rfl hns (by kernel_rfl) (by kernel_rfl) hQ (by kernel_rfl) (fun _ _ => by kernel_rfl) trivial ?_
    refine hx_take (i := 2) (oi := _) (v := .pointer (some ⟨g, 0, none⟩)) rfl rfl hns (by kernel_rfl) (by kernel_rfl) hQ (by kernel_rfl) (fun _ _ => by kernel_rfl) trivial ?_
    refine hx_take (i := 3) (oi := _) (v := .pointer (some ⟨g, 3, none⟩)) rfl rfl hns (by kernel_rfl) (by kernel_rfl) hQ (by kernel_rfl) (fun _ _ => by kernel_rfl) trivial ?_
    refine hx_take (i := 4) (oi := _) (v := .pointer (some ⟨g, 3, none⟩)) rfl rfl hns (by kernel_rfl) (by kernel_rfl) hQ (by kernel_rfl) (fun _ _ => by kernel_rfl) trivial ?_
    refine hx_take (i := 6) (oi := _) (v := .pointer (some ⟨g, 0, none⟩)) rfl rfl hns (by kernel_rfl) (by kernel_rfl) hQ (by kernel_rfl) (fun _ _ => by kernel_rfl) trivial ?_
    refine hx_two_vp (i := 5) (j := 7) (oi := _) (oj := _) (.slice va st.p.pr.length vc) w.drew 83 #[.pointer (some ⟨g, 0, none⟩), .func (.func 84) #[] #[]] [FlawE (placeK L n k1) er] rfl rfl (by kernel_rfl) (by kernel_rfl) (by kernel_rfl) rfl (ld_one rfl (by kernel_rfl) (by kernel_rfl) _ hc0) trivial (by kernel_rfl) HC2.out ?_ ?_
    · refine hx_panic (i := 7) (oi := _) 83 #[.pointer (some ⟨g, 0, none⟩), .func (.func 84) #[] #[]] [FlawE (placeK L n k1) er] rfl (by kernel_rfl) (by kernel_rfl) (by kernel_rfl) HC2.out ?_
      intro w' hk
      exact ⟨rfl, hbad.out _ _ _ HR1.out (HS.out _ hk)⟩
    · intro w' hk
      exact ⟨rfl, hbad.out _ _ _ HR1.out (HS.out _ hk)⟩
  | ok x =>
    obtain ⟨t, r1⟩ := x
    have hH := HC.out
    rw [hc] at hH
    have HC2 : Hid (Calls Tryz.prog 83 #[.pointer (some ⟨g, 0, none⟩), .func (.func 84) #[] #[]] w.drew fun e w' => e = .returned (.string ⟨t.toArray⟩) ∧ Prs w0 w' g lv L n r1 (.slice va st.p.pr.length vc) c4 c5 c6 c7 c8 c9 (.map (some b)) ∧ OnlyG g w.drew w') := hH
    have hR1 := HR.out
    rw [hc] at hR1
    simp only at hR1
    replace HR := Lib.hid hR1
    obtain ⟨e1, _⟩ := nameT_ok hc
    have hl1 : r1.length ≤ r.length := by rw [e1, List.length_cons]; omega
    have hm : st.p.pr.length + 1 + r1.length ≤ 70000 := by have := HLL.out; rw [e1, List.length_cons] at this; omega
    clear HC hH hR1 hc e1
    go_enter Tryz.func59, Tryz.ntmps59
    go_upto_region 0 with (fail)
    refine hx_begin (S := fun _ => True) (by kernel_rfl) trivial (by kernel_rfl) (fun _ _ _ _ _ h => h) (fun hns hQ => ?_)
    refine hx_take (i := 0) (oi := _) (v := .pointer (some ⟨g, 0, none⟩)) rfl rfl hns (by kernel_rfl) (by kernel_rfl) hQ (by kernel_rfl) (fun _ _ => by kernel_rfl) trivial ?_
    refine hx_take (i := 1) (oi := _) (v := .pointer (some ⟨g, 0, none⟩)) rfl rfl hns (by kernel_rfl) (by kernel_rfl) hQ (by kernel_rfl) (fun _ _ => by kernel_rfl) trivial ?_
    refine hx_take (i := 2) (oi := _) (v := .pointer (some ⟨g, 0, none⟩)) rfl rfl hns (by kernel_rfl) (by kernel_rfl) hQ (by kernel_rfl) (fun _ _ => by kernel_rfl) trivial ?_
    refine hx_take (i := 3) (oi := _) (v := .pointer (some ⟨g, 3, none⟩)) rfl rfl hns (by kernel_rfl) (by kernel_rfl) hQ (by kernel_rfl) (fun _ _ => by kernel_rfl) trivial ?_
    refine hx_take (i := 4) (oi := _) (v := .pointer (some ⟨g, 3, none⟩)) rfl rfl hns (by kernel_rfl) (by kernel_rfl) hQ (by kernel_rfl) (fun _ _ => by kernel_rfl) trivial ?_
    refine hx_take (i := 6) (oi := _) (v := .pointer (some ⟨g, 0, none⟩)) rfl rfl hns (by kernel_rfl) (by kernel_rfl) hQ (by kernel_rfl) (fun _ _ => by kernel_rfl) trivial ?_
    refine hx_two_vc (i := 5) (j := 7) (oi := _) (oj := _) (.slice va st.p.pr.length vc) w.drew 83 #[.pointer (some ⟨g, 0, none⟩), .func (.func 84) #[] #[]] rfl rfl (by kernel_rfl) (by kernel_rfl) (by kernel_rfl) rfl (ld_one rfl (by kernel_rfl) (by kernel_rfl) _ hc0) trivial rfl (by kernel_rfl) HC2.out ?_ ?_
    · refine hx_call (i := 7) (oi := _) 83 #[.pointer (some ⟨g, 0, none⟩), .func (.func 84) #[] #[]] rfl rfl (by kernel_rfl) (by kernel_rfl) (by kernel_rfl) HC2.out ?_
      rintro e w2 ⟨rfl, hx2⟩
      obtain ⟨hp2, hk2⟩ := hx2
      have hX2 := HD.out.only hk2 hp2 hl1
      refine ⟨_, rfl, trivial, ?_⟩
      have hS5 : Since w2 (w2.alloc (.cells #[.string ⟨t.toArray⟩] 9)) := (Since.refl w2).alloc _
      have hX5 := hX2.next hS5
      have hRD := reads_celR (heap_alloc_new w2 (.cells #[.string ⟨t.toArray⟩] 9)) (K := 1) rfl
      have hDD : w0.heap.size ≤ (w2.alloc (.cells #[.string ⟨t.toArray⟩] 9)).heap.size := hX5.prs.sin.size
      refine hx_make (i := 8) (oi := _) (.slice (some ⟨w2.heap.size, 0, none⟩) 1 1) (w2.alloc (.cells #[.string ⟨t.toArray⟩] 9)) rfl rfl (by kernel_rfl) (by kernel_rfl) (by kernel_rfl) trivial ?_
      refine hx_append (i := 9) (oi := _) (.tmp 7) (.tmp 10) 23 w0.heap.size 9 i5 (.string ByteArray.empty) 1 16 (.slice va st.p.pr.length vc) st.p.pr.length _ _ (some ⟨w2.heap.size, 0, none⟩) 1 1 (#[.string ⟨t.toArray⟩] : Array Value).toList rfl rfl (by kernel_rfl) (by kernel_rfl) rfl Tryz.underlying23 I5.out.1 I5.out.2.1 I5.out.2.2.1 I5.out.2.2.2 rfl (by decide) (by kernel_rfl) hX5.own.pr (by kernel_rfl) hRD (by simp [Value.oneCell']) (by have := HLL.out; unfold maxLen; omega) (by have := HLL.out; omega) hDD ?_
      intro v6 w6 hown6 hg6 hat6
      obtain ⟨a6, c6, rfl⟩ := own_slice hown6
      have hC6 := (prs_grow hX5.prs hX5.own.pr hg6 (by decide) (by decide)).par.cel
      have hf := Lib.hid (push_pr (x := t) hX5 hown6 hg6 hat6 hm)
      refine ⟨trivial, ?_⟩
      refine hx_take (i := 10) (oi := _) (v := .pointer (some ⟨g, 0, none⟩)) rfl rfl hns (by kernel_rfl) (by kernel_rfl) hQ (by kernel_rfl) (fun _ _ => by kernel_rfl) trivial ?_
      refine hx_take (i := 11) (oi := _) (v := .pointer (some ⟨g, 3, none⟩)) rfl rfl hns (by kernel_rfl) (by kernel_rfl) hQ (by kernel_rfl) (fun _ _ => by kernel_rfl) trivial ?_
      refine hx_take (i := 12) (oi := _) (v := .pointer (some ⟨g, 3, none⟩)) rfl rfl hns (by kernel_rfl) (by kernel_rfl) hQ (by kernel_rfl) (fun _ _ => by kernel_rfl) trivial ?_
      refine hx_store (i := 13) (oi := _) (w6.setCell ⟨g, 3, none⟩ (.slice a6 (st.p.pr.length + 1) c6)) rfl rfl (by kernel_rfl) (by kernel_rfl) (st_pr rfl (by kernel_rfl) (by kernel_rfl) _ hC6 rfl) trivial ?_
      refine wpAnyH_done (by kernel_rfl) ?_ _
      clear hns hQ
      simp only [List.set_cons_zero, List.set_cons_succ]
      clear hC6 hat6 hown6 hg6 hX5 hRD hDD hS5 hX2 HD HLL I5 i5
      go_wp2_with fail
      go_end0
      exact hgood.out _ _ _ HR.out hf.out
    · rintro e w2 ⟨rfl, hx2⟩
      obtain ⟨hp2, hk2⟩ := hx2
      have hX2 := HD.out.only hk2 hp2 hl1
      refine ⟨_, rfl, trivial, ?_⟩
      refine hx_two_vv (i := 5) (j := 8) (oi := _) (oj := _) (.slice va st.p.pr.length vc) w2 (.slice (some ⟨w2.heap.size, 0, none⟩) 1 1) (w2.alloc (.cells #[.string ⟨t.toArray⟩] 9)) rfl rfl (by kernel_rfl) (by kernel_rfl) (by kernel_rfl) rfl (ld_one rfl (by kernel_rfl) (by kernel_rfl) _ (hX2.prs.par.cel.cell 3)) trivial rfl (by kernel_rfl) trivial ?_ ?_
      · skip
        have hS5 : Since w2 (w2.alloc (.cells #[.string ⟨t.toArray⟩] 9)) := (Since.refl w2).alloc _
        have hX5 := hX2.next hS5
        have hRD := reads_celR (heap_alloc_new w2 (.cells #[.string ⟨t.toArray⟩] 9)) (K := 1) rfl
        have hDD : w0.heap.size ≤ (w2.alloc (.cells #[.string ⟨t.toArray⟩] 9)).heap.size := hX5.prs.sin.size
        refine hx_make (i := 8) (oi := _) (.slice (some ⟨w2.heap.size, 0, none⟩) 1 1) (w2.alloc (.cells #[.string ⟨t.toArray⟩] 9)) rfl rfl (by kernel_rfl) (by kernel_rfl) (by kernel_rfl) trivial ?_
        refine hx_append (i := 9) (oi := _) (.tmp 7) (.tmp 10) 23 w0.heap.size 9 i5 (.string ByteArray.empty) 1 16 (.slice va st.p.pr.length vc) st.p.pr.length _ _ (some ⟨w2.heap.size, 0, none⟩) 1 1 (#[.string ⟨t.toArray⟩] : Array Value).toList rfl rfl (by kernel_rfl) (by kernel_rfl) rfl Tryz.underlying23 I5.out.1 I5.out.2.1 I5.out.2.2.1 I5.out.2.2.2 rfl (by decide) (by kernel_rfl) hX5.own.pr (by kernel_rfl) hRD (by simp [Value.oneCell']) (by have := HLL.out; unfold maxLen; omega) (by have := HLL.out; omega) hDD ?_
        intro v6 w6 hown6 hg6 hat6
        obtain ⟨a6, c6, rfl⟩ := own_slice hown6
        have hC6 := (prs_grow hX5.prs hX5.own.pr hg6 (by decide) (by decide)).par.cel
        have hf := Lib.hid (push_pr (x := t) hX5 hown6 hg6 hat6 hm)
        refine ⟨trivial, ?_⟩
        refine hx_take (i := 10) (oi := _) (v := .pointer (some ⟨g, 0, none⟩)) rfl rfl hns (by kernel_rfl) (by kernel_rfl) hQ (by kernel_rfl) (fun _ _ => by kernel_rfl) trivial ?_
        refine hx_take (i := 11) (oi := _) (v := .pointer (some ⟨g, 3, none⟩)) rfl rfl hns (by kernel_rfl) (by kernel_rfl) hQ (by kernel_rfl) (fun _ _ => by kernel_rfl) trivial ?_
        refine hx_take (i := 12) (oi := _) (v := .pointer (some ⟨g, 3, none⟩)) rfl rfl hns (by kernel_rfl) (by kernel_rfl) hQ (by kernel_rfl) (fun _ _ => by kernel_rfl) trivial ?_
        refine hx_store (i := 13) (oi := _) (w6.setCell ⟨g, 3, none⟩ (.slice a6 (st.p.pr.length + 1) c6)) rfl rfl (by kernel_rfl) (by kernel_rfl) (st_pr rfl (by kernel_rfl) (by kernel_rfl) _ hC6 rfl) trivial ?_
        refine wpAnyH_done (by kernel_rfl) ?_ _
        clear hns hQ
        simp only [List.set_cons_zero, List.set_cons_succ]
        clear hC6 hat6 hown6 hg6 hX5 hRD hDD hS5 hX2 HD HLL I5 i5
        go_wp2_with fail
        go_end0
        exact hgood.out _ _ _ HR.out hf.out
      · skip
        have hS5 : Since w2 (w2.alloc (.cells #[.string ⟨t.toArray⟩] 9)) := (Since.refl w2).alloc _
        have hX5 := hX2.next hS5
        have hRD := reads_celR (heap_alloc_new w2 (.cells #[.string ⟨t.toArray⟩] 9)) (K := 1) rfl
        have hDD : w0.heap.size ≤ (w2.alloc (.cells #[.string ⟨t.toArray⟩] 9)).heap.size := hX5.prs.sin.size
        refine hx_make (i := 5) (oi := _) (.slice va st.p.pr.length vc) (w2.alloc (.cells #[.string ⟨t.toArray⟩] 9)) rfl rfl (by kernel_rfl) (by kernel_rfl) (ld_one rfl (by kernel_rfl) (by kernel_rfl) _ (hX5.prs.par.cel.cell 3)) trivial ?_
        refine hx_append (i := 9) (oi := _) (.tmp 7) (.tmp 10) 23 w0.heap.size 9 i5 (.string ByteArray.empty) 1 16 (.slice va st.p.pr.length vc) st.p.pr.length _ _ (some ⟨w2.heap.size, 0, none⟩) 1 1 (#[.string ⟨t.toArray⟩] : Array Value).toList rfl rfl (by kernel_rfl) (by kernel_rfl) rfl Tryz.underlying23 I5.out.1 I5.out.2.1 I5.out.2.2.1 I5.out.2.2.2 rfl (by decide) (by kernel_rfl) hX5.own.pr (by kernel_rfl) hRD (by simp [Value.oneCell']) (by have := HLL.out; unfold maxLen; omega) (by have := HLL.out; omega) hDD ?_
        intro v6 w6 hown6 hg6 hat6
        obtain ⟨a6, c6, rfl⟩ := own_slice hown6
        have hC6 := (prs_grow hX5.prs hX5.own.pr hg6 (by decide) (by decide)).par.cel
        have hf := Lib.hid (push_pr (x := t) hX5 hown6 hg6 hat6 hm)
        refine ⟨trivial, ?_⟩
        refine hx_take (i := 10) (oi := _) (v := .pointer (some ⟨g, 0, none⟩)) rfl rfl hns (by kernel_rfl) (by kernel_rfl) hQ (by kernel_rfl) (fun _ _ => by kernel_rfl) trivial ?_
        refine hx_take (i := 11) (oi := _) (v := .pointer (some ⟨g, 3, none⟩)) rfl rfl hns (by kernel_rfl) (by kernel_rfl) hQ (by kernel_rfl) (fun _ _ => by kernel_rfl) trivial ?_
        refine hx_take (i := 12) (oi := _) (v := .pointer (some ⟨g, 3, none⟩)) rfl rfl hns (by kernel_rfl) (by kernel_rfl) hQ (by kernel_rfl) (fun _ _ => by kernel_rfl) trivial ?_
        refine hx_store (i := 13) (oi := _) (w6.setCell ⟨g, 3, none⟩ (.slice a6 (st.p.pr.length + 1) c6)) rfl rfl (by kernel_rfl) (by kernel_rfl) (st_pr rfl (by kernel_rfl) (by kernel_rfl) _ hC6 rfl) trivial ?_
        refine wpAnyH_done (by kernel_rfl) ?_ _
        clear hns hQ
        simp only [List.set_cons_zero, List.set_cons_succ]
        clear hC6 hat6 hown6 hg6 hX5 hRD hDD hS5 hX2 HD HLL I5 i5
        go_wp2_with fail
        go_end0
        exact hgood.out _ _ _ HR.out hf.out
set_option maxHeartbeats 4000000 in
set_option maxRecDepth 100000 in
theorem ppred_any {w0 : World} {g : Nat} {lv : Value} {L : List Tk} {n : Nat} {st : PSt} {c3 c4 c5 c6 c7 c8 c9 : Value} {C : List (Clr × Value)} {U : List (Rul × Value)} {G : List (Grn × Value)} {b k : Nat} {S : List Txt} (r : Toks) (w : World) (h : StX w0 w g lv L n st r c3 c4 c5 c6 c7 c8 c9 C U G b k S) :
    Calls Tryz.prog 60 #[.pointer (some ⟨g, 0, none⟩)] w (SOut w0 g lv L n (predT st r)) := by
  obtain ⟨R, hR⟩ : ∃ R, Hid (R = predT st r) := ⟨_, rfl⟩
  obtain ⟨K, hK⟩ : ∃ K : Ending → World → Prop, Hid (K = SOut w0 g lv L n R) := ⟨_, rfl⟩
  have hbad : Hid (∀ k er w', R = .error (k, er) → Since w0 w' → K (.panicked [FlawE (placeK L n k) er]) w') := fun k er w' e h => by rw [hK.out, e]; exact ⟨rfl, h⟩
  have hgood : Hid (∀ st1 r1 w', R = .ok (st1, r1) → St w0 g lv L n st1 r1 w' → K (.returned (.tuple #[])) w') := fun st1 r1 w' e h => by rw [hK.out, e]; exact ⟨rfl, h⟩
  rw [← hR.out, ← hK.out]
  clear hK
  obtain ⟨i5, hi5, hz0, hz1, hz2⟩ := info_parts info_pd
  have I5 := Lib.hid (And.intro hi5 (And.intro hz0 (And.intro hz1 hz2)))
  obtain ⟨va, vc, rfl⟩ := own_slice h.own.pd
  have HX := Lib.hid h
  have HP := Lib.hid h.prs
  have HG : Hid (OnlyG g w w) := Keep.refl _ _
  have HLL : Hid (st.p.pd.length + r.length ≤ 70000) := h.room.pd
  have hR1 := hR.out
  rw [predT] at hR1
  have HR := Lib.hid hR1
  clear hi5 hz0 hz1 hz2 h hR hR1
  go_enter Tryz.func60, Tryz.ntmps60
  have HC := Lib.hid (ppred_here HP.out)
  cases hc : nameT principalB r with
  | error x =>
    obtain ⟨k1, er⟩ := x
    have hH := HC.out
    rw [hc] at hH
    have HC2 : Hid (Calls Tryz.prog 83 #[.pointer (some ⟨g, 0, none⟩), .func (.func 85) #[] #[]] w fun e w' => e = .panicked [FlawE (placeK L n k1) er] ∧ OnlyG g w w') := hH
    have hR1 := HR.out
    rw [hc] at hR1
    have HR1 : Hid (R = .error (k1, er)) := hR1
    have HS : Hid (∀ w', OnlyG g w w' → Since w0 w') := fun w' hk => only_new0 HP.out hk
    clear HC hH hR1 HR hc hgood HX HLL I5 HG
    go_wp2_with fail
    refine HC2.out.mono ?_
    rintro e wz ⟨rfl, hk⟩
    go_wp2_with fail
    exact ⟨rfl, hbad.out _ _ _ HR1.out (HS.out _ hk)⟩
  | ok x =>
    obtain ⟨t, r1⟩ := x
    have hH := HC.out
    rw [hc] at hH
    have HC2 : Hid (Calls Tryz.prog 83 #[.pointer (some ⟨g, 0, none⟩), .func (.func 85) #[] #[]] w fun e w' => e = .returned (.string ⟨t.toArray⟩) ∧ Prs w0 w' g lv L n r1 c3 (.slice va st.p.pd.length vc) c5 c6 c7 c8 c9 (.map (some b)) ∧ OnlyG g w w') := hH
    have hR1 := HR.out
    rw [hc] at hR1
    simp only at hR1
    replace HR := Lib.hid hR1
    have hle1 : r1.length + 1 ≤ r.length := by rw [(nameT_ok hc).1, List.length_cons]; omega
    clear HC hH hR1 hc
    go_wp2_with fail
    refine HC2.out.mono ?_
    rintro e w2 ⟨rfl, hp2, hk2⟩
    replace HP := Lib.hid hp2
    replace HG := Lib.hid (only_only HG.out hk2)
    clear HC2 hp2  
    clear hk2
    have HC := Lib.hid (pmust_here [47] HP.out (by decide))
    cases hc : mustT [47] r1 with
    | error x =>
      obtain ⟨k1, er⟩ := x
      have hH := HC.out
      rw [hc] at hH
      have HC2 : Hid (Calls Tryz.prog 66 #[.pointer (some ⟨g, 0, none⟩), .string ⟨#[47]⟩] w2 fun e w' => e = .panicked [FlawE (placeK L n k1) er] ∧ OnlyG g w2 w') := hH
      have hR1 := HR.out
      rw [hc] at hR1
      have HR1 : Hid (R = .error (k1, er)) := hR1
      have HS : Hid (∀ w', OnlyG g w2 w' → Since w0 w') := fun w' hk => only_new0 HP.out hk
      clear HC hH hR1 HR hc hgood HX HLL I5
      go_wp2_with fail
      refine HC2.out.mono ?_
      rintro e wz ⟨rfl, hk⟩
      go_wp2_with fail
      exact ⟨rfl, hbad.out _ _ _ HR1.out (HS.out _ hk)⟩
    | ok r3 =>
      have hH := HC.out
      rw [hc] at hH
      have HC2 : Hid (Calls Tryz.prog 66 #[.pointer (some ⟨g, 0, none⟩), .string ⟨#[47]⟩] w2 fun e w' => e = .returned (.tuple #[]) ∧ Prs w0 w' g lv L n r3 c3 (.slice va st.p.pd.length vc) c5 c6 c7 c8 c9 (.map (some b)) ∧ OnlyG g w2 w') := hH
      have hR1 := HR.out
      rw [hc] at hR1
      simp only at hR1
      replace HR := Lib.hid hR1
      have hcc := mustT_ok hc
      clear HC hH hR1 hc
      go_wp2_with fail
      refine HC2.out.mono ?_
      rintro e w3 ⟨rfl, hp2, hk2⟩
      replace HP := Lib.hid hp2
      replace HG := Lib.hid (only_only HG.out hk2)
      clear HC2 hp2  
      clear hk2
      have hle2 : r3.length + 1 ≤ r.length := by have := hle1; have := congrArg List.length hcc; rw [List.length_cons] at this; omega
      have hle : r3.length ≤ r.length := by omega
      clear hle1 hcc
      have hpD := HP.out.next (Since.refl w3).drew
      have hGD : OnlyG g w w3.drew := only_only HG.out (Keep.of_since (Since.refl w3).drew)
      have HD := Lib.hid (HX.out.only hGD hpD hle)
      have HC := Lib.hid (pnumber_any HD.out.prs)
      have hc0 : w3.drew.cell? ⟨g, 4, none⟩ = some (.slice va st.p.pd.length vc) := HD.out.prs.par.cel.cell 4
      clear hpD hGD HG HP HX
      cases hc : numT r3 with
      | error x =>
        obtain ⟨k1, er⟩ := x
        have hH := HC.out
        rw [hc] at hH
        have HC2 : Hid (Calls Tryz.prog 86 #[.pointer (some ⟨g, 0, none⟩)] w3.drew fun e w' => e = .panicked [FlawE (placeK L n k1) er] ∧ OnlyG g w3.drew w') := hH
        have hR1 := HR.out
        rw [hc] at hR1
        have HR1 : Hid (R = .error (k1, er)) := hR1
        have HS : Hid (∀ w', OnlyG g w3.drew w' → Since w0 w') := fun w' hk => only_new0 HD.out.prs hk
        clear HC hH hR1 HR hc hgood HD HLL I5
        go_upto_region 2 with (fail)
        refine hx_begin (S := fun _ => True) (by kernel_rfl) trivial (by kernel_rfl) (fun _ _ _ _ _ h => h) (fun hns hQ => ?_)
        refine hx_take (i := 0) (oi := _) (v := .pointer (some ⟨g, 0, none⟩)) rfl rfl hns (by kernel_rfl) (by kernel_rfl) hQ (by kernel_rfl) (fun _ _ => by kernel_rfl) trivial ?_
        refine hx_take (i := 1) (oi := _) (v := .pointer (some ⟨g, 0, none⟩)) rfl rfl hns (by kernel_rfl) (by kernel_rfl) hQ (by kernel_rfl) (fun _ _ => by kernel_rfl) trivial ?_
        refine hx_take (i := 2) (oi := _) (v := .pointer (some ⟨g, 0, none⟩)) rfl rfl hns (by kernel_rfl) (by kernel_rfl) hQ (by kernel_rfl) (fun _ _ => by kernel_rfl) trivial ?_
        refine hx_take (i := 3) (oi := _) (v := .pointer (some ⟨g, 3, none⟩)) rfl rfl hns (by kernel_rfl) (by kernel_rfl) hQ (by kernel_rfl) (fun _ _ => by kernel_rfl) trivial ?_
        refine hx_take (i := 4) (oi := _) (v := .pointer (some ⟨g, 4, none⟩)) rfl rfl hns (by kernel_rfl) (by kernel_rfl) hQ (by kernel_rfl) (fun _ _ => by kernel_rfl) trivial ?_
        refine hx_take (i := 6) (oi := _) (v := .string ⟨t.toArray⟩) rfl rfl hns (by kernel_rfl) (by kernel_rfl) hQ (by kernel_rfl) (fun _ _ => by kernel_rfl) trivial ?_
        refine hx_take (i := 7) (oi := _) (v := .pointer (some ⟨g, 0, none⟩)) rfl rfl hns (by kernel_rfl) (by kernel_rfl) hQ (by kernel_rfl) (fun _ _ => by kernel_rfl) trivial ?_
        refine hx_two_vp (i := 5) (j := 8) (oi := _) (oj := _) (.slice va st.p.pd.length vc) w3.drew 86 #[.pointer (some ⟨g, 0, none⟩)] [FlawE (placeK L n k1) er] rfl rfl (by kernel_rfl) (by kernel_rfl) (by kernel_rfl) rfl (ld_one rfl (by kernel_rfl) (by kernel_rfl) _ hc0) trivial (by kernel_rfl) HC2.out ?_ ?_
        · refine hx_panic (i := 8) (oi := _) 86 #[.pointer (some ⟨g, 0, none⟩)] [FlawE (placeK L n k1) er] rfl (by kernel_rfl) (by kernel_rfl) (by kernel_rfl) HC2.out ?_
          intro w' hk
          exact ⟨rfl, hbad.out _ _ _ HR1.out (HS.out _ hk)⟩
        · intro w' hk
          exact ⟨rfl, hbad.out _ _ _ HR1.out (HS.out _ hk)⟩
      | ok x =>
        obtain ⟨m, r4⟩ := x
        have hH := HC.out
        rw [hc] at hH
        have HC2 : Hid (Calls Tryz.prog 86 #[.pointer (some ⟨g, 0, none⟩)] w3.drew fun e w' => e = .returned (.int .i64 (m : Int)) ∧ Prs w0 w' g lv L n r4 c3 (.slice va st.p.pd.length vc) c5 c6 c7 c8 c9 (.map (some b)) ∧ OnlyG g w3.drew w') := hH.mono fun e w' hh => hh
        have hR1 := HR.out
        rw [hc] at hR1
        simp only at hR1
        replace HR := Lib.hid hR1
        have hl1 : r4.length ≤ r3.length := by obtain ⟨p, hp⟩ := numT_eats hc; rw [hp, List.length_append]; omega
        have hm : st.p.pd.length + 1 + r4.length ≤ 70000 := by have := HLL.out; omega
        clear HC hH hR1 hc
        go_upto_region 2 with (fail)
        refine hx_begin (S := fun _ => True) (by kernel_rfl) trivial (by kernel_rfl) (fun _ _ _ _ _ h => h) (fun hns hQ => ?_)
        refine hx_take (i := 0) (oi := _) (v := .pointer (some ⟨g, 0, none⟩)) rfl rfl hns (by kernel_rfl) (by kernel_rfl) hQ (by kernel_rfl) (fun _ _ => by kernel_rfl) trivial ?_
        refine hx_take (i := 1) (oi := _) (v := .pointer (some ⟨g, 0, none⟩)) rfl rfl hns (by kernel_rfl) (by kernel_rfl) hQ (by kernel_rfl) (fun _ _ => by kernel_rfl) trivial ?_
        refine hx_take (i := 2) (oi := _) (v := .pointer (some ⟨g, 0, none⟩)) rfl rfl hns (by kernel_rfl) (by kernel_rfl) hQ (by kernel_rfl) (fun _ _ => by kernel_rfl) trivial ?_
        refine hx_take (i := 3) (oi := _) (v := .pointer (some ⟨g, 3, none⟩)) rfl rfl hns (by kernel_rfl) (by kernel_rfl) hQ (by kernel_rfl) (fun _ _ => by kernel_rfl) trivial ?_
        refine hx_take (i := 4) (oi := _) (v := .pointer (some ⟨g, 4, none⟩)) rfl rfl hns (by kernel_rfl) (by kernel_rfl) hQ (by kernel_rfl) (fun _ _ => by kernel_rfl) trivial ?_
        refine hx_take (i := 6) (oi := _) (v := .string ⟨t.toArray⟩) rfl rfl hns (by kernel_rfl) (by kernel_rfl) hQ (by kernel_rfl) (fun _ _ => by kernel_rfl) trivial ?_
        refine hx_take (i := 7) (oi := _) (v := .pointer (some ⟨g, 0, none⟩)) rfl rfl hns (by kernel_rfl) (by kernel_rfl) hQ (by kernel_rfl) (fun _ _ => by kernel_rfl) trivial ?_
        refine hx_two_vc (i := 5) (j := 8) (oi := _) (oj := _) (.slice va st.p.pd.length vc) w3.drew 86 #[.pointer (some ⟨g, 0, none⟩)] rfl rfl (by kernel_rfl) (by kernel_rfl) (by kernel_rfl) rfl (ld_one rfl (by kernel_rfl) (by kernel_rfl) _ hc0) trivial rfl (by kernel_rfl) HC2.out ?_ ?_
        · refine hx_call (i := 8) (oi := _) 86 #[.pointer (some ⟨g, 0, none⟩)] rfl rfl (by kernel_rfl) (by kernel_rfl) (by kernel_rfl) HC2.out ?_
          rintro e w2 ⟨rfl, hx2⟩
          obtain ⟨hp2, hk2⟩ := hx2
          have hX2 := HD.out.only hk2 hp2 hl1
          refine ⟨_, rfl, trivial, ?_⟩
          refine hx_take (i := 9) (oi := _) (v := .agg #[.string ⟨t.toArray⟩, .int .i64 (m : Int)]) rfl rfl hns (by kernel_rfl) (by kernel_rfl) hQ (by kernel_rfl) (fun _ _ => by kernel_rfl) trivial ?_
          have hS5 : Since w2 (w2.alloc (.cells #[.string ⟨t.toArray⟩, .int .i64 (m : Int)] 36)) := (Since.refl w2).alloc _
          have hX5 := hX2.next hS5
          have hRD := reads_celR (heap_alloc_new w2 (.cells #[.string ⟨t.toArray⟩, .int .i64 (m : Int)] 36)) (K := 2) rfl
          have hDD : w0.heap.size ≤ (w2.alloc (.cells #[.string ⟨t.toArray⟩, .int .i64 (m : Int)] 36)).heap.size := hX5.prs.sin.size
          refine hx_make (i := 10) (oi := _) (.slice (some ⟨w2.heap.size, 0, none⟩) 1 1) (w2.alloc (.cells #[.string ⟨t.toArray⟩, .int .i64 (m : Int)] 36)) rfl rfl (by kernel_rfl) (by kernel_rfl) (by kernel_rfl) trivial ?_
          refine hx_append (i := 11) (oi := _) (.tmp 12) (.tmp 17) 24 w0.heap.size 36 i5 (.agg #[.string ByteArray.empty, .int .i64 0]) 2 24 (.slice va st.p.pd.length vc) st.p.pd.length _ _ (some ⟨w2.heap.size, 0, none⟩) 1 1 (#[.string ⟨t.toArray⟩, .int .i64 (m : Int)] : Array Value).toList rfl rfl (by kernel_rfl) (by kernel_rfl) rfl Tryz.underlying24 I5.out.1 I5.out.2.1 I5.out.2.2.1 I5.out.2.2.2 rfl (by decide) (by kernel_rfl) hX5.own.pd (by kernel_rfl) hRD (by simp [Value.oneCell']) (by have := HLL.out; unfold maxLen; omega) (by have := HLL.out; omega) hDD ?_
          intro v6 w6 hown6 hg6 hat6
          obtain ⟨a6, c6, rfl⟩ := own_slice hown6
          have hC6 := (prs_grow hX5.prs hX5.own.pd hg6 (by decide) (by decide)).par.cel
          have hf := Lib.hid (push_pd (x := (t, (m : Int))) hX5 hown6 hg6 hat6 hm)
          refine ⟨trivial, ?_⟩
          refine hx_take (i := 12) (oi := _) (v := .pointer (some ⟨g, 0, none⟩)) rfl rfl hns (by kernel_rfl) (by kernel_rfl) hQ (by kernel_rfl) (fun _ _ => by kernel_rfl) trivial ?_
          refine hx_take (i := 13) (oi := _) (v := .pointer (some ⟨g, 3, none⟩)) rfl rfl hns (by kernel_rfl) (by kernel_rfl) hQ (by kernel_rfl) (fun _ _ => by kernel_rfl) trivial ?_
          refine hx_take (i := 14) (oi := _) (v := .pointer (some ⟨g, 4, none⟩)) rfl rfl hns (by kernel_rfl) (by kernel_rfl) hQ (by kernel_rfl) (fun _ _ => by kernel_rfl) trivial ?_
          refine hx_store (i := 15) (oi := _) (w6.setCell ⟨g, 4, none⟩ (.slice a6 (st.p.pd.length + 1) c6)) rfl rfl (by kernel_rfl) (by kernel_rfl) (st_pd rfl (by kernel_rfl) (by kernel_rfl) _ hC6 rfl) trivial ?_
          refine wpAnyH_done (by kernel_rfl) ?_ _
          clear hns hQ
          simp only [List.set_cons_zero, List.set_cons_succ]
          clear hC6 hat6 hown6 hg6 hX5 hRD hDD hS5 hX2 HD HLL I5 i5
          go_wp2_with fail
          go_end0
          exact hgood.out _ _ _ HR.out hf.out
        · rintro e w2 ⟨rfl, hx2⟩
          obtain ⟨hp2, hk2⟩ := hx2
          have hX2 := HD.out.only hk2 hp2 hl1
          refine ⟨_, rfl, trivial, ?_⟩
          refine hx_take (i := 9) (oi := _) (v := .agg #[.string ⟨t.toArray⟩, .int .i64 (m : Int)]) rfl rfl hns (by kernel_rfl) (by kernel_rfl) hQ (by kernel_rfl) (fun _ _ => by kernel_rfl) trivial ?_
          refine hx_two_vv (i := 5) (j := 10) (oi := _) (oj := _) (.slice va st.p.pd.length vc) w2 (.slice (some ⟨w2.heap.size, 0, none⟩) 1 1) (w2.alloc (.cells #[.string ⟨t.toArray⟩, .int .i64 (m : Int)] 36)) rfl rfl (by kernel_rfl) (by kernel_rfl) (by kernel_rfl) rfl (ld_one rfl (by kernel_rfl) (by kernel_rfl) _ (hX2.prs.par.cel.cell 4)) trivial rfl (by kernel_rfl) trivial ?_ ?_
          · skip
            have hS5 : Since w2 (w2.alloc (.cells #[.string ⟨t.toArray⟩, .int .i64 (m : Int)] 36)) := (Since.refl w2).alloc _
            have hX5 := hX2.next hS5
            have hRD := reads_celR (heap_alloc_new w2 (.cells #[.string ⟨t.toArray⟩, .int .i64 (m : Int)] 36)) (K := 2) rfl
            have hDD : w0.heap.size ≤ (w2.alloc (.cells #[.string ⟨t.toArray⟩, .int .i64 (m : Int)] 36)).heap.size := hX5.prs.sin.size
            refine hx_make (i := 10) (oi := _) (.slice (some ⟨w2.heap.size, 0, none⟩) 1 1) (w2.alloc (.cells #[.string ⟨t.toArray⟩, .int .i64 (m : Int)] 36)) rfl rfl (by kernel_rfl) (by kernel_rfl) (by kernel_rfl) trivial ?_
            refine hx_append (i := 11) (oi := _) (.tmp 12) (.tmp 17) 24 w0.heap.size 36 i5 (.agg #[.string ByteArray.empty, .int .i64 0]) 2 24 (.slice va st.p.pd.length vc) st.p.pd.length _ _ (some ⟨w2.heap.size, 0, none⟩) 1 1 (#[.string ⟨t.toArray⟩, .int .i64 (m : Int)] : Array Value).toList rfl rfl (by kernel_rfl) (by kernel_rfl) rfl Tryz.underlying24 I5.out.1 I5.out.2.1 I5.out.2.2.1 I5.out.2.2.2 rfl (by decide) (by kernel_rfl) hX5.own.pd (by kernel_rfl) hRD (by simp [Value.oneCell']) (by have := HLL.out; unfold maxLen; omega) (by have := HLL.out; omega) hDD ?_
            intro v6 w6 hown6 hg6 hat6
            obtain ⟨a6, c6, rfl⟩ := own_slice hown6
            have hC6 := (prs_grow hX5.prs hX5.own.pd hg6 (by decide) (by decide)).par.cel
            have hf := Lib.hid (push_pd (x := (t, (m : Int))) hX5 hown6 hg6 hat6 hm)
            refine ⟨trivial, ?_⟩
            refine hx_take (i := 12) (oi := _) (v := .pointer (some ⟨g, 0, none⟩)) rfl rfl hns (by kernel_rfl) (by kernel_rfl) hQ (by kernel_rfl) (fun _ _ => by kernel_rfl) trivial ?_
            refine hx_take (i := 13) (oi := _) (v := .pointer (some ⟨g, 3, none⟩)) rfl rfl hns (by kernel_rfl) (by kernel_rfl) hQ (by kernel_rfl) (fun _ _ => by kernel_rfl) trivial ?_
            refine hx_take (i := 14) (oi := _) (v := .pointer (some ⟨g, 4, none⟩)) rfl rfl hns (by kernel_rfl) (by kernel_rfl) hQ (by kernel_rfl) (fun _ _ => by kernel_rfl) trivial ?_
            refine hx_store (i := 15) (oi := _) (w6.setCell ⟨g, 4, none⟩ (.slice a6 (st.p.pd.length + 1) c6)) rfl rfl (by kernel_rfl) (by kernel_rfl) (st_pd rfl (by kernel_rfl) (by kernel_rfl) _ hC6 rfl) trivial ?_
            refine wpAnyH_done (by kernel_rfl) ?_ _
            clear hns hQ
            simp only [List.set_cons_zero, List.set_cons_succ]
            clear hC6 hat6 hown6 hg6 hX5 hRD hDD hS5 hX2 HD HLL I5 i5
            go_wp2_with fail
            go_end0
            exact hgood.out _ _ _ HR.out hf.out
          · skip
            have hS5 : Since w2 (w2.alloc (.cells #[.string ⟨t.toArray⟩, .int .i64 (m : Int)] 36)) := (Since.refl w2).alloc _
            have hX5 := hX2.next hS5
            have hRD := reads_celR (heap_alloc_new w2 (.cells #[.string ⟨t.toArray⟩, .int .i64 (m : Int)] 36)) (K := 2) rfl
            have hDD : w0.heap.size ≤ (w2.alloc (.cells #[.string ⟨t.toArray⟩, .int .i64 (m : Int)] 36)).heap.size := hX5.prs.sin.size
            refine hx_make (i := 5) (oi := _) (.slice va st.p.pd.length vc) (w2.alloc (.cells #[.string ⟨t.toArray⟩, .int .i64 (m : Int)] 36)) rfl rfl (by kernel_rfl) (by kernel_rfl) (ld_one rfl (by kernel_rfl) (by kernel_rfl) _ (hX5.prs.par.cel.cell 4)) trivial ?_
            refine hx_append (i := 11) (oi := _) (.tmp 12) (.tmp 17) 24 w0.heap.size 36 i5 (.agg #[.string ByteArray.empty, .int .i64 0]) 2 24 (.slice va st.p.pd.length vc) st.p.pd.length _ _ (some ⟨w2.heap.size, 0, none⟩) 1 1 (#[.string ⟨t.toArray⟩, .int .i64 (m : Int)] : Array Value).toList rfl rfl (by kernel_rfl) (by kernel_rfl) rfl Tryz.underlying24 I5.out.1 I5.out.2.1 I5.out.2.2.1 I5.out.2.2.2 rfl (by decide) (by kernel_rfl) hX5.own.pd (by kernel_rfl) hRD (by simp [Value.oneCell']) (by have := HLL.out; unfold maxLen; omega) (by have := HLL.out; omega) hDD ?_
            intro v6 w6 hown6 hg6 hat6
            obtain ⟨a6, c6, rfl⟩ := own_slice hown6
            have hC6 := (prs_grow hX5.prs hX5.own.pd hg6 (by decide) (by decide)).par.cel
            have hf := Lib.hid (push_pd (x := (t, (m : Int))) hX5 hown6 hg6 hat6 hm)
            refine ⟨trivial, ?_⟩
            refine hx_take (i := 12) (oi := _) (v := .pointer (some ⟨g, 0, none⟩)) rfl rfl hns (by kernel_rfl) (by kernel_rfl) hQ (by kernel_rfl) (fun _ _ => by kernel_rfl) trivial ?_
            refine hx_take (i := 13) (oi := _) (v := .pointer (some ⟨g, 3, none⟩)) rfl rfl hns (by kernel_rfl) (by kernel_rfl) hQ (by kernel_rfl) (fun _ _ => by kernel_rfl) trivial ?_
            refine hx_take (i := 14) (oi := _) (v := .pointer (some ⟨g, 4, none⟩)) rfl rfl hns (by kernel_rfl) (by kernel_rfl) hQ (by kernel_rfl) (fun _ _ => by kernel_rfl) trivial ?_
            refine hx_store (i := 15) (oi := _) (w6.setCell ⟨g, 4, none⟩ (.slice a6 (st.p.pd.length + 1) c6)) rfl rfl (by kernel_rfl) (by kernel_rfl) (st_pd rfl (by kernel_rfl) (by kernel_rfl) _ hC6 rfl) trivial ?_
            refine wpAnyH_done (by kernel_rfl) ?_ _
            clear hns hQ
            simp only [List.set_cons_zero, List.set_cons_succ]
            clear hC6 hat6 hown6 hg6 hX5 hRD hDD hS5 hX2 HD HLL I5 i5
            go_wp2_with fail
            go_end0
            exact hgood.out _ _ _ HR.out hf.out
end Go.Proofs.YtnfjjckbgnieeaaGreatDoor

namespace Go.Proofs.YtnfjjckbgnieeaaGreatDoor
open Go.RowKit

theorem info_cl : (Tryz.prog.info? 38).map (fun i => (i.zero, i.size, i.bytes)) = some (some (.agg #[.string ByteArray.empty, .slice none 0 0]), 2, 40) := by kernel_rfl
theorem st_cl {o : Oper} {x y : Operand} {ev : Operand → Value} {g k : Nat} {a : Option Addr} {n c : Nat} {cs : Array Value} {T : TypeId} (ho : o.op = Op.store 25 x y) (hx : ev x = .pointer (some ⟨g, k, none⟩)) (hy : ev y = .slice a n c) (W : World) (h : Cel W g cs T) (hk : (cs[k]?).isSome = true) :
    (execOp ev o).run Tryz.prog W = .ok .skip (W.setCell ⟨g, k, none⟩ (.slice a n c)) := by
  obtain ⟨u, hu⟩ := Option.isSome_iff_exists.1 hk
  have h1 : W.cell? ⟨g, k, none⟩ = some u := (h.cell k).trans hu
  have h2 := h.free k
  simp only [execOp, ho]
  go_simp
/-- What clear's closure works on: the parser's variable, the clear's box and row. -/
def ReadI (g pb cb D m : Nat) (who : Txt) (l : List Txt) (r : Toks) (W : World) : Prop := Cel W pb #[.pointer (some ⟨g, 0, none⟩)] 80 ∧ (∃ v, Cel W cb #[.string ⟨who.toArray⟩, v] 38 ∧ W.ownsRow D 9 1 v l.length (l.flatMap txtL)) ∧ l.length + r.length ≤ m
theorem read_fin {w0 w2 w5 w6 : World} {g pb cb D m : Nat} {who : Txt} {lv : Value} {L : List Tk} {n : Nat} {r1 : Toks} {c3 c4 c5 c6 c7 c8 c9 c10 v v6 : Value} {l : List Txt} {t : Txt} (h2 : Prs w0 w2 g lv L n r1 c3 c4 c5 c6 c7 c8 c9 c10) (hlo : w0.heap.size ≤ D) (hlb : D ≤ cb)
    (hP2 : Cel w2 pb #[.pointer (some ⟨g, 0, none⟩)] 80) (hL2 : Cel w2 cb #[.string ⟨who.toArray⟩, v] 38) (hO2 : w2.ownsRow D 9 1 v l.length (l.flatMap txtL)) (hs : Since w2 w5) (hg : w5.grownBy w6 v.ownBlock)
    (hown : w6.ownsRow D 9 1 v6 (l.length + 1) (l.flatMap txtL ++ txtL t)) (hm : l.length + 1 + r1.length ≤ m) :
    Prs w0 (w6.setCell ⟨cb, 1, none⟩ v6) g lv L n r1 c3 c4 c5 c6 c7 c8 c9 c10 ∧ ReadI g pb cb D m who (l ++ [t]) r1 (w6.setCell ⟨cb, 1, none⟩ v6) ∧ OnlyZ g D w2 (w6.setCell ⟨cb, 1, none⟩ v6) := by
  have k1 : Keep (fun b => D ≤ b) w2 w6 := (Keep.of_since hs).trans (Keep.of_grown (Z := fun b => D ≤ b) hg (fun b hb => (hO2.lt b hb).1)) (fun _ h => .inl h)
  have k2 : Keep (fun b => D ≤ b) w6 (w6.setCell ⟨cb, 1, none⟩ v6) := Keep.of_grown (grown_setCell w6 cb 1 v6) (fun b hb => by injection hb with hb; rw [← hb]; exact hlb)
  have hO5 := own_since hO2 hs
  have hP6 := cel_own (hP2.next hs) hO5 (by decide) hg
  have hL6 := cel_own (hL2.next hs) hO5 (by decide) hg
  have hG6 := cel_own (h2.par.cel.next hs) hO5 (by decide) hg
  have hT6 := (own_since h2.par.row hs).kept hg (own_kind_apart (own_since h2.par.row hs) hO5 (by decide))
  have g2 := grown_setCell w6 cb 1 v6
  have n1 : ¬ pb = cb := cel_cel_ne hP6 hL6 (by decide)
  have n2 : ¬ g = cb := cel_cel_ne hG6 hL6 (by decide)
  refine ⟨⟨⟨hG6.grown g2 (fun e => n2 (by injection e)), own_setCell hT6 hL6 (by decide), h2.par.suf, h2.par.len⟩, ?_, h2.low, h2.env, h2.fit⟩, ⟨hP6.grown g2 (fun e => n1 (by injection e)), ⟨v6, hL6.set rfl, ?_⟩, ?_⟩, ?_⟩
  · exact (k1.trans k2 (fun _ h => .inl h)).since h2.sin (fun x hx => Nat.le_trans hlo hx)
  · have h9 := own_setCell (j := 1) (u := v6) hown hL6 (by decide)
    rw [List.length_append, List.flatMap_append]
    simpa using h9
  · rw [List.length_append, List.length_singleton]; exact hm
  · exact (k1.trans k2 (fun _ h => .inl h)).mono (fun _ h => .inr h)
set_option maxHeartbeats 4000000 in
set_option maxRecDepth 100000 in
theorem pclear1_any {w0 : World} {g : Nat} {lv : Value} {L : List Tk} {n : Nat} {c3 c4 c5 c6 c7 c8 c9 c10 : Value} (pb cb D m : Nat) (who : Txt) (hlo : w0.heap.size ≤ D) (hlb : D ≤ cb) (hm : m ≤ 100000) (l : List Txt) (r : Toks) (w : World) (h : Prs w0 w g lv L n r c3 c4 c5 c6 c7 c8 c9 c10) (hI : ReadI g pb cb D m who l r w) (hDw : D ≤ w.heap.size) :
    Calls Tryz.prog 88 #[.pointer (some ⟨cb, 0, none⟩), .pointer (some ⟨pb, 0, none⟩)] w (EachOut w0 w g lv L n c3 c4 c5 c6 c7 c8 c9 c10 D (fun l r W => ReadI g pb cb D m who l r W) (readStep l r)) := by
  obtain ⟨hP, ⟨v, hL, hO⟩, hmm⟩ := hI
  obtain ⟨va, vc, rfl⟩ := own_slice hO
  obtain ⟨i5, hi5, hz0, hz1, hz2⟩ := info_parts info_pr
  have I5 := Lib.hid (And.intro hi5 (And.intro hz0 (And.intro hz1 hz2)))
  have hpg : ¬ pb = g := cel_cel_ne hP h.par.cel (by decide)
  have hlg : ¬ cb = g := cel_cel_ne hL h.par.cel (by decide)
  have hog : ∀ b, (Value.slice va l.length vc).ownBlock = some b → ¬ b = g := fun b hb e => cel_own_ne h.par.cel hO (by decide) (by rw [hb, e])
  have HA := Lib.hid (pprinc_here (h.next (Since.refl w).drew))
  have HLL : Hid (l.length ≤ 100000) := by show _ ≤ _; omega
  replace hP := hP.next (Since.refl w).drew
  replace hL := hL.next (Since.refl w).drew
  replace hO := own_since hO (Since.refl w).drew
  have HKD : Hid (∀ w', OnlyG g w.drew w' → OnlyG g w w') := fun w' hk => only_since (Since.refl w).drew hk
  have hT : At w.drew pb 0 #[.pointer (some ⟨g, 0, none⟩)] := hP.at
  have hL0 : w.drew.cell? ⟨cb, 1, none⟩ = some (.slice va l.length vc) := hL.cell 1
  clear hi5 hz0 hz1 hz2
  cases ha : nameT principalB r with
  | error x =>
    obtain ⟨k, er⟩ := x
    have hH := HA.out
    rw [ha] at hH
    have HA2 : Hid (Calls Tryz.prog 83 #[.pointer (some ⟨g, 0, none⟩), .func (.func 84) #[] #[]] w.drew fun e w' => e = .panicked [FlawE (placeK L n k) er] ∧ OnlyG g w.drew w') := hH
    have hr : Hid (readStep l r = .error (k, er)) := by show _ = _; rw [readStep, ha]
    rw [hr.out]
    clear HA hH ha h hr hO hmm
    go_enter Tryz.func88, Tryz.ntmps88
    go_upto_region 0 with (fail)
    refine hx_begin (S := fun W => At W pb 0 #[.pointer (some ⟨g, 0, none⟩)]) (by kernel_rfl) hT (by kernel_rfl) (fun _ _ _ _ _ h => h) (fun hns hQ => ?_)
    refine hx_take (i := 0) (oi := _) (v := .pointer (some ⟨cb, 1, none⟩)) rfl rfl hns (by kernel_rfl) (by kernel_rfl) hQ (by kernel_rfl) (fun _ _ => (by kernel_rfl)) hT ?_
    refine hx_take (i := 2) (oi := _) (v := .pointer (some ⟨g, 0, none⟩)) rfl rfl hns (by kernel_rfl) (by kernel_rfl) hQ (by kernel_rfl) (fun W hW => ld_one rfl (by kernel_rfl) (by kernel_rfl) W (hW 0 _ rfl)) hT ?_
    refine hx_two_vp (i := 1) (j := 3) (oi := _) (oj := _) (.slice va l.length vc) w.drew 83 #[.pointer (some ⟨g, 0, none⟩), .func (.func 84) #[] #[]] [FlawE (placeK L n k) er] rfl rfl (by kernel_rfl) (by kernel_rfl) (by kernel_rfl) rfl (ld_one rfl (by kernel_rfl) (by kernel_rfl) _ hL0) hT (by kernel_rfl) HA2.out ?_ ?_
    · refine hx_panic (i := 3) (oi := _) 83 #[.pointer (some ⟨g, 0, none⟩), .func (.func 84) #[] #[]] [FlawE (placeK L n k) er] rfl (by kernel_rfl) (by kernel_rfl) (by kernel_rfl) HA2.out ?_
      intro w' hk
      exact ⟨rfl, rfl, (HKD.out _ hk).z⟩
    · intro w' hk
      exact ⟨rfl, rfl, (HKD.out _ hk).z⟩
  | ok x =>
    obtain ⟨t, r1⟩ := x
    have hH := HA.out
    rw [ha] at hH
    have HA2 : Hid (Calls Tryz.prog 83 #[.pointer (some ⟨g, 0, none⟩), .func (.func 84) #[] #[]] w.drew fun e w' => e = .returned (.string ⟨t.toArray⟩) ∧ Prs w0 w' g lv L n r1 c3 c4 c5 c6 c7 c8 c9 c10 ∧ OnlyG g w.drew w') := hH
    have hr : Hid (readStep l r = .ok (l ++ [t], r1)) := by show _ = _; rw [readStep, ha]
    rw [hr.out]
    have hm1 : l.length + 1 + r1.length ≤ m := by
      have := readStep_eats.len hr.out
      omega
    clear HA hH ha h hr hmm
    go_enter Tryz.func88, Tryz.ntmps88
    go_upto_region 0 with (fail)
    refine hx_begin (S := fun W => At W pb 0 #[.pointer (some ⟨g, 0, none⟩)]) (by kernel_rfl) hT (by kernel_rfl) (fun _ _ _ _ _ h => h) (fun hns hQ => ?_)
    refine hx_take (i := 0) (oi := _) (v := .pointer (some ⟨cb, 1, none⟩)) rfl rfl hns (by kernel_rfl) (by kernel_rfl) hQ (by kernel_rfl) (fun _ _ => (by kernel_rfl)) hT ?_
    refine hx_take (i := 2) (oi := _) (v := .pointer (some ⟨g, 0, none⟩)) rfl rfl hns (by kernel_rfl) (by kernel_rfl) hQ (by kernel_rfl) (fun W hW => ld_one rfl (by kernel_rfl) (by kernel_rfl) W (hW 0 _ rfl)) hT ?_
    refine hx_two_vc (i := 1) (j := 3) (oi := _) (oj := _) (.slice va l.length vc) w.drew 83 #[.pointer (some ⟨g, 0, none⟩), .func (.func 84) #[] #[]] rfl rfl (by kernel_rfl) (by kernel_rfl) (by kernel_rfl) rfl (ld_one rfl (by kernel_rfl) (by kernel_rfl) _ hL0) hT rfl (by kernel_rfl) HA2.out ?_ ?_
    · refine hx_call (i := 3) (oi := _) 83 #[.pointer (some ⟨g, 0, none⟩), .func (.func 84) #[] #[]] rfl rfl (by kernel_rfl) (by kernel_rfl) (by kernel_rfl) HA2.out ?_
      rintro e w2 ⟨rfl, hx2⟩
      obtain ⟨hp2, hk2⟩ := hx2
      have hP2 := hk2.cel hP hpg
      have hL2 := hk2.cel hL hlg
      have hO2 := hk2.own hO hog
      have hT2 : At w2 pb 0 #[.pointer (some ⟨g, 0, none⟩)] := hP2.at
      refine ⟨_, rfl, hT2, ?_⟩
      have hS5 : Since w2 (w2.alloc (.cells #[.string ⟨t.toArray⟩] 9)) := (Since.refl w2).alloc _
      have hP5 := hP2.next hS5
      have hL5 := hL2.next hS5
      have hO5 := own_since hO2 hS5
      have hRD := reads_celR (heap_alloc_new w2 (.cells #[.string ⟨t.toArray⟩] 9)) (K := 1) rfl
      have hDD : D ≤ (w2.alloc (.cells #[.string ⟨t.toArray⟩] 9)).heap.size := Nat.le_trans hDw (Nat.le_trans (HKD.out _ hk2).size hS5.size)
      have hTb : At (w2.alloc (.cells #[.string ⟨t.toArray⟩] 9)) pb 0 #[.pointer (some ⟨g, 0, none⟩)] := hP5.at
      refine hx_make (i := 4) (oi := _) (.slice (some ⟨w2.heap.size, 0, none⟩) 1 1) (w2.alloc (.cells #[.string ⟨t.toArray⟩] 9)) rfl rfl (by kernel_rfl) (by kernel_rfl) (by kernel_rfl) hTb ?_
      refine hx_append (i := 5) (oi := _) (.tmp 3) (.tmp 6) 23 D 9 i5 (.string ByteArray.empty) 1 16 (.slice va l.length vc) l.length _ _ (some ⟨w2.heap.size, 0, none⟩) 1 1 (#[.string ⟨t.toArray⟩] : Array Value).toList rfl rfl (by kernel_rfl) (by kernel_rfl) rfl Tryz.underlying23 I5.out.1 I5.out.2.1 I5.out.2.2.1 I5.out.2.2.2 rfl (by decide) (by kernel_rfl) hO5 (by kernel_rfl) hRD (by simp [Value.oneCell']) (by have := HLL.out; unfold maxLen; omega) (by have := HLL.out; omega) hDD ?_
      intro v6 w6 hown6 hg6 hat6
      obtain ⟨a6, c6, rfl⟩ := own_slice hown6
      have hL6 := cel_own hL5 hO5 (by decide) hg6
      have hT6 : At w6 pb 0 #[.pointer (some ⟨g, 0, none⟩)] := (cel_own hP5 hO5 (by decide) hg6).at
      have hf := read_fin (t := t) hp2 hlo hlb hP2 hL2 hO2 hS5 hg6 hown6 hm1
      refine ⟨hT6, ?_⟩
      refine hx_take (i := 6) (oi := _) (v := .pointer (some ⟨cb, 1, none⟩)) rfl rfl hns (by kernel_rfl) (by kernel_rfl) hQ (by kernel_rfl) (fun _ _ => (by kernel_rfl)) hT6 ?_
      have hT7 : At (w6.setCell ⟨cb, 1, none⟩ (.slice a6 (l.length + 1) c6)) pb 0 #[.pointer (some ⟨g, 0, none⟩)] := hf.2.1.1.at
      refine hx_store (i := 7) (oi := _) (w6.setCell ⟨cb, 1, none⟩ (.slice a6 (l.length + 1) c6)) rfl rfl (by kernel_rfl) (by kernel_rfl) (st_pr rfl (by kernel_rfl) (by kernel_rfl) _ hL6 rfl) hT7 ?_
      refine wpAnyH_done (by kernel_rfl) ?_ _
      clear hns hQ
      simp only [List.set_cons_zero, List.set_cons_succ]
      clear hL6 hT6 hT7 hat6 hown6 hg6 hT hP5 hL5 hO5 hRD hS5 hp2 hP2 hL2 hO2
      go_wp2_with fail
      go_end0
      exact ⟨rfl, hf.1, hf.2.1, (HKD.out _ hk2).z.trans' hf.2.2⟩
    · rintro e w2 ⟨rfl, hx2⟩
      obtain ⟨hp2, hk2⟩ := hx2
      have hP2 := hk2.cel hP hpg
      have hL2 := hk2.cel hL hlg
      have hO2 := hk2.own hO hog
      have hT2 : At w2 pb 0 #[.pointer (some ⟨g, 0, none⟩)] := hP2.at
      refine ⟨_, rfl, hT2, ?_⟩
      refine hx_two_vv (i := 1) (j := 4) (oi := _) (oj := _) (.slice va l.length vc) w2 (.slice (some ⟨w2.heap.size, 0, none⟩) 1 1) (w2.alloc (.cells #[.string ⟨t.toArray⟩] 9)) rfl rfl (by kernel_rfl) (by kernel_rfl) (by kernel_rfl) rfl (ld_one rfl (by kernel_rfl) (by kernel_rfl) _ (hL2.cell 1)) hT2 rfl (by kernel_rfl) (hT2.next ((Since.refl _).alloc _)) ?_ ?_
      · skip
        have hS5 : Since w2 (w2.alloc (.cells #[.string ⟨t.toArray⟩] 9)) := (Since.refl w2).alloc _
        have hP5 := hP2.next hS5
        have hL5 := hL2.next hS5
        have hO5 := own_since hO2 hS5
        have hRD := reads_celR (heap_alloc_new w2 (.cells #[.string ⟨t.toArray⟩] 9)) (K := 1) rfl
        have hDD : D ≤ (w2.alloc (.cells #[.string ⟨t.toArray⟩] 9)).heap.size := Nat.le_trans hDw (Nat.le_trans (HKD.out _ hk2).size hS5.size)
        have hTb : At (w2.alloc (.cells #[.string ⟨t.toArray⟩] 9)) pb 0 #[.pointer (some ⟨g, 0, none⟩)] := hP5.at
        refine hx_make (i := 4) (oi := _) (.slice (some ⟨w2.heap.size, 0, none⟩) 1 1) (w2.alloc (.cells #[.string ⟨t.toArray⟩] 9)) rfl rfl (by kernel_rfl) (by kernel_rfl) (by kernel_rfl) hTb ?_
        refine hx_append (i := 5) (oi := _) (.tmp 3) (.tmp 6) 23 D 9 i5 (.string ByteArray.empty) 1 16 (.slice va l.length vc) l.length _ _ (some ⟨w2.heap.size, 0, none⟩) 1 1 (#[.string ⟨t.toArray⟩] : Array Value).toList rfl rfl (by kernel_rfl) (by kernel_rfl) rfl Tryz.underlying23 I5.out.1 I5.out.2.1 I5.out.2.2.1 I5.out.2.2.2 rfl (by decide) (by kernel_rfl) hO5 (by kernel_rfl) hRD (by simp [Value.oneCell']) (by have := HLL.out; unfold maxLen; omega) (by have := HLL.out; omega) hDD ?_
        intro v6 w6 hown6 hg6 hat6
        obtain ⟨a6, c6, rfl⟩ := own_slice hown6
        have hL6 := cel_own hL5 hO5 (by decide) hg6
        have hT6 : At w6 pb 0 #[.pointer (some ⟨g, 0, none⟩)] := (cel_own hP5 hO5 (by decide) hg6).at
        have hf := read_fin (t := t) hp2 hlo hlb hP2 hL2 hO2 hS5 hg6 hown6 hm1
        refine ⟨hT6, ?_⟩
        refine hx_take (i := 6) (oi := _) (v := .pointer (some ⟨cb, 1, none⟩)) rfl rfl hns (by kernel_rfl) (by kernel_rfl) hQ (by kernel_rfl) (fun _ _ => (by kernel_rfl)) hT6 ?_
        have hT7 : At (w6.setCell ⟨cb, 1, none⟩ (.slice a6 (l.length + 1) c6)) pb 0 #[.pointer (some ⟨g, 0, none⟩)] := hf.2.1.1.at
        refine hx_store (i := 7) (oi := _) (w6.setCell ⟨cb, 1, none⟩ (.slice a6 (l.length + 1) c6)) rfl rfl (by kernel_rfl) (by kernel_rfl) (st_pr rfl (by kernel_rfl) (by kernel_rfl) _ hL6 rfl) hT7 ?_
        refine wpAnyH_done (by kernel_rfl) ?_ _
        clear hns hQ
        simp only [List.set_cons_zero, List.set_cons_succ]
        clear hL6 hT6 hT7 hat6 hown6 hg6 hT hP5 hL5 hO5 hRD hS5 hp2 hP2 hL2 hO2
        go_wp2_with fail
        go_end0
        exact ⟨rfl, hf.1, hf.2.1, (HKD.out _ hk2).z.trans' hf.2.2⟩
      · skip
        have hS5 : Since w2 (w2.alloc (.cells #[.string ⟨t.toArray⟩] 9)) := (Since.refl w2).alloc _
        have hP5 := hP2.next hS5
        have hL5 := hL2.next hS5
        have hO5 := own_since hO2 hS5
        have hRD := reads_celR (heap_alloc_new w2 (.cells #[.string ⟨t.toArray⟩] 9)) (K := 1) rfl
        have hDD : D ≤ (w2.alloc (.cells #[.string ⟨t.toArray⟩] 9)).heap.size := Nat.le_trans hDw (Nat.le_trans (HKD.out _ hk2).size hS5.size)
        have hTb : At (w2.alloc (.cells #[.string ⟨t.toArray⟩] 9)) pb 0 #[.pointer (some ⟨g, 0, none⟩)] := hP5.at
        refine hx_make (i := 1) (oi := _) (.slice va l.length vc) (w2.alloc (.cells #[.string ⟨t.toArray⟩] 9)) rfl rfl (by kernel_rfl) (by kernel_rfl) (ld_one rfl (by kernel_rfl) (by kernel_rfl) _ (hL5.cell 1)) hTb ?_
        refine hx_append (i := 5) (oi := _) (.tmp 3) (.tmp 6) 23 D 9 i5 (.string ByteArray.empty) 1 16 (.slice va l.length vc) l.length _ _ (some ⟨w2.heap.size, 0, none⟩) 1 1 (#[.string ⟨t.toArray⟩] : Array Value).toList rfl rfl (by kernel_rfl) (by kernel_rfl) rfl Tryz.underlying23 I5.out.1 I5.out.2.1 I5.out.2.2.1 I5.out.2.2.2 rfl (by decide) (by kernel_rfl) hO5 (by kernel_rfl) hRD (by simp [Value.oneCell']) (by have := HLL.out; unfold maxLen; omega) (by have := HLL.out; omega) hDD ?_
        intro v6 w6 hown6 hg6 hat6
        obtain ⟨a6, c6, rfl⟩ := own_slice hown6
        have hL6 := cel_own hL5 hO5 (by decide) hg6
        have hT6 : At w6 pb 0 #[.pointer (some ⟨g, 0, none⟩)] := (cel_own hP5 hO5 (by decide) hg6).at
        have hf := read_fin (t := t) hp2 hlo hlb hP2 hL2 hO2 hS5 hg6 hown6 hm1
        refine ⟨hT6, ?_⟩
        refine hx_take (i := 6) (oi := _) (v := .pointer (some ⟨cb, 1, none⟩)) rfl rfl hns (by kernel_rfl) (by kernel_rfl) hQ (by kernel_rfl) (fun _ _ => (by kernel_rfl)) hT6 ?_
        have hT7 : At (w6.setCell ⟨cb, 1, none⟩ (.slice a6 (l.length + 1) c6)) pb 0 #[.pointer (some ⟨g, 0, none⟩)] := hf.2.1.1.at
        refine hx_store (i := 7) (oi := _) (w6.setCell ⟨cb, 1, none⟩ (.slice a6 (l.length + 1) c6)) rfl rfl (by kernel_rfl) (by kernel_rfl) (st_pr rfl (by kernel_rfl) (by kernel_rfl) _ hL6 rfl) hT7 ?_
        refine wpAnyH_done (by kernel_rfl) ?_ _
        clear hns hQ
        simp only [List.set_cons_zero, List.set_cons_succ]
        clear hL6 hT6 hT7 hat6 hown6 hg6 hT hP5 hL5 hO5 hRD hS5 hp2 hP2 hL2 hO2
        go_wp2_with fail
        go_end0
        exact ⟨rfl, hf.1, hf.2.1, (HKD.out _ hk2).z.trans' hf.2.2⟩
set_option maxHeartbeats 4000000 in
set_option maxRecDepth 100000 in
theorem pclear_any {w0 : World} {g : Nat} {lv : Value} {L : List Tk} {n : Nat} {st : PSt} {c3 c4 c5 c6 c7 c8 c9 : Value} {C : List (Clr × Value)} {U : List (Rul × Value)} {G : List (Grn × Value)} {b k : Nat} {S : List Txt} (r : Toks) (w : World) (h : StX w0 w g lv L n st r c3 c4 c5 c6 c7 c8 c9 C U G b k S) :
    Calls Tryz.prog 61 #[.pointer (some ⟨g, 0, none⟩)] w (SOut w0 g lv L n (clearT st r)) := by
  have hmf : ∀ (fn : Fn) (first cap : Array Value) (w : World), (Instr.makeFunc fn first cap).run Tryz.prog w = .ok (.func fn first cap) w := fun _ _ _ _ => rfl
  obtain ⟨R, hR⟩ : ∃ R, Hid (R = clearT st r) := ⟨_, rfl⟩
  obtain ⟨K, hK⟩ : ∃ K : Ending → World → Prop, Hid (K = SOut w0 g lv L n R) := ⟨_, rfl⟩
  have hbad : Hid (∀ k er w', R = .error (k, er) → Since w0 w' → K (.panicked [FlawE (placeK L n k) er]) w') := fun k er w' e h => by rw [hK.out, e]; exact ⟨rfl, h⟩
  have hgood : Hid (∀ st1 r1 w', R = .ok (st1, r1) → St w0 g lv L n st1 r1 w' → K (.returned (.tuple #[])) w') := fun st1 r1 w' e h => by rw [hK.out, e]; exact ⟨rfl, h⟩
  rw [← hR.out, ← hK.out]
  clear hK
  obtain ⟨i5, hi5, hz0, hz1, hz2⟩ := info_parts info_cl
  have I5 := Lib.hid (And.intro hi5 (And.intro hz0 (And.intro hz1 hz2)))
  obtain ⟨va, vc, rfl⟩ := own_slice h.own.cl.row
  have hCl : C.length = st.p.cl.length := by rw [← h.own.eC, List.length_map]
  have HX := Lib.hid h
  have hSb : Since w (w.alloc (.cells #[.pointer (some ⟨g, 0, none⟩)] 80)) := (Since.refl w).alloc _
  have hPb : Cel (w.alloc (.cells #[.pointer (some ⟨g, 0, none⟩)] 80)) w.heap.size #[.pointer (some ⟨g, 0, none⟩)] 80 := heap_alloc_new w _
  have hgl := h.prs.par.cel.lt
  have HRL : Hid (r.length ≤ 65536) := by show _ ≤ _; have := h.prs.par.le; have := h.prs.par.len; omega
  have HS0 := Lib.hid h.prs.sin.size
  have HP := Lib.hid (h.prs.next hSb)
  have HG : Hid (OnlyG g w (w.alloc (.cells #[.pointer (some ⟨g, 0, none⟩)] 80))) := Keep.of_since hSb
  have HLL : Hid (C.length ≤ 70000) := by show _ ≤ _; have := h.room.cl; omega
  have HLR : Hid (st.p.cl.length + r.length ≤ 70000) := h.room.cl
  have hR1 := hR.out
  rw [clearT] at hR1
  have HR := Lib.hid hR1
  clear hi5 hz0 hz1 hz2 h hR hR1 hCl hSb
  go_enter Tryz.func61, Tryz.ntmps61
  go_upto_region 1 with (fail)
  generalize (w.alloc (.cells #[.pointer (some ⟨g, 0, none⟩)] 80)) = w1 at *
  obtain ⟨pb, hpb⟩ : ∃ x, Hid (x = w.heap.size) := ⟨_, rfl⟩
  have HPg : Hid (¬ pb = g ∧ w.heap.size ≤ pb ∧ g < pb) := by show _ ∧ _; rw [hpb.out]; omega
  simp only [← hpb.out]
  rw [← hpb.out] at hPb
  have p1 : w1.cell? ⟨pb, 0, none⟩ = some (.pointer (some ⟨g, 0, none⟩)) := hPb.cell 0
  clear hgl hpb
  have HC := Lib.hid (pprinc_here HP.out)
  cases hc : nameT principalB r with
  | error x =>
    obtain ⟨k1, er⟩ := x
    have hH := HC.out
    rw [hc] at hH
    have HC2 : Hid (Calls Tryz.prog 83 #[.pointer (some ⟨g, 0, none⟩), .func (.func 84) #[] #[]] w1 fun e w' => e = .panicked [FlawE (placeK L n k1) er] ∧ OnlyG g w1 w') := hH
    have hR1 := HR.out
    rw [hc] at hR1
    have HR1 : Hid (R = .error (k1, er)) := hR1
    have HS : Hid (∀ w', OnlyG g w1 w' → Since w0 w') := fun w' hk => only_new0 HP.out hk
    clear HC hH hR1 HR hc hgood HX HLL I5 HG
    go_wp2_with fail
    refine HC2.out.mono ?_
    rintro e wz ⟨rfl, hk⟩
    go_wp2_with fail
    exact ⟨rfl, hbad.out _ _ _ HR1.out (HS.out _ hk)⟩
  | ok x =>
    obtain ⟨t, r1⟩ := x
    have hH := HC.out
    rw [hc] at hH
    have HC2 : Hid (Calls Tryz.prog 83 #[.pointer (some ⟨g, 0, none⟩), .func (.func 84) #[] #[]] w1 fun e w' => e = .returned (.string ⟨t.toArray⟩) ∧ Prs w0 w' g lv L n r1 c3 c4 (.slice va C.length vc) c6 c7 c8 c9 (.map (some b)) ∧ OnlyG g w1 w') := hH
    have hR1 := HR.out
    rw [hc] at hR1
    simp only at hR1
    replace HR := Lib.hid hR1
    have hcc1 := (nameT_ok hc).1
    clear HC hH hR1 hc
    go_wp2_with fail
    refine HC2.out.mono ?_
    rintro e w2 ⟨rfl, hp2, hk2⟩
    replace HP := Lib.hid hp2
    replace HG := Lib.hid (only_only HG.out hk2)
    have hP2 := hk2.cel hPb HPg.out.1
    have p2 : w2.cell? ⟨pb, 0, none⟩ = some (.pointer (some ⟨g, 0, none⟩)) := hP2.cell 0
    have HGs := Lib.hid HG.out.size
    have HPl := Lib.hid HP.out.par.cel.lt
    clear HC2 hp2 hPb p1
    clear hk2
    have HLE1 : Hid (r1.length + 1 ≤ r.length) := by show _ ≤ _; rw [hcc1, List.length_cons]; omega
    have hS3 : Since w2 (w2.alloc (.cells #[.string ⟨t.toArray⟩, .slice none 0 0] 38)) := (Since.refl w2).alloc _
    have hCc : Cel (w2.alloc (.cells #[.string ⟨t.toArray⟩, .slice none 0 0] 38)) w2.heap.size #[.string ⟨t.toArray⟩, .slice none 0 0] 38 := heap_alloc_new w2 _
    have hPc := hP2.next hS3
    replace HP := Lib.hid (HP.out.next hS3)
    replace HG : Hid (OnlyG g w (w2.alloc (.cells #[.string ⟨t.toArray⟩, .slice none 0 0] 38))) := only_then HG.out hS3
    have hsz : w.heap.size ≤ w2.heap.size := HGs.out
    have hgl2 : g < w2.heap.size := HPl.out
    clear hcc1
    go_upto_region 2 with (fail)
    generalize (w2.alloc (.cells #[.string ⟨t.toArray⟩, .slice none 0 0] 38)) = w3 at *
    obtain ⟨cb, hcb⟩ : ∃ x, Hid (x = w2.heap.size) := ⟨_, rfl⟩
    have HCW : Hid (w.heap.size ≤ cb) := by show _ ≤ _; rw [hcb.out]; exact hsz
    have HCG2 : Hid (g < cb) := by show _ < _; rw [hcb.out]; exact hgl2
    have HCg : Hid (¬ cb = g) := by show ¬ _; have := HCG2.out; omega
    simp only [← hcb.out]
    rw [← hcb.out] at hCc
    have p3 : w3.cell? ⟨pb, 0, none⟩ = some (.pointer (some ⟨g, 0, none⟩)) := hPc.cell 0
    clear hcb hsz hgl2 hS3 hP2 HGs HPl p2
    have HC := Lib.hid (pmust_here [58] HP.out (by decide))
    cases hc : mustT [58] r1 with
    | error x =>
      obtain ⟨k1, er⟩ := x
      have hH := HC.out
      rw [hc] at hH
      have HC2 : Hid (Calls Tryz.prog 66 #[.pointer (some ⟨g, 0, none⟩), .string ⟨#[58]⟩] w3 fun e w' => e = .panicked [FlawE (placeK L n k1) er] ∧ OnlyG g w3 w') := hH
      have hR1 := HR.out
      rw [hc] at hR1
      have HR1 : Hid (R = .error (k1, er)) := hR1
      have HS : Hid (∀ w', OnlyG g w3 w' → Since w0 w') := fun w' hk => only_new0 HP.out hk
      clear HC hH hR1 HR hc hgood HX HLL I5
      go_wp2_with fail
      refine HC2.out.mono ?_
      rintro e wz ⟨rfl, hk⟩
      go_wp2_with fail
      exact ⟨rfl, hbad.out _ _ _ HR1.out (HS.out _ hk)⟩
    | ok r3 =>
      have hH := HC.out
      rw [hc] at hH
      have HC2 : Hid (Calls Tryz.prog 66 #[.pointer (some ⟨g, 0, none⟩), .string ⟨#[58]⟩] w3 fun e w' => e = .returned (.tuple #[]) ∧ Prs w0 w' g lv L n r3 c3 c4 (.slice va C.length vc) c6 c7 c8 c9 (.map (some b)) ∧ OnlyG g w3 w') := hH
      have hR1 := HR.out
      rw [hc] at hR1
      simp only at hR1
      replace HR := Lib.hid hR1
      have hcc := mustT_ok hc
      clear HC hH hR1 hc
      go_wp2_with fail
      refine HC2.out.mono ?_
      rintro e w4 ⟨rfl, hp2, hk2⟩
      replace HP := Lib.hid hp2
      replace HG := Lib.hid (only_only HG.out hk2)
      have hP4 := hk2.cel hPc HPg.out.1
      have hC4 := hk2.cel hCc HCg.out
      have p4 : w4.cell? ⟨pb, 0, none⟩ = some (.pointer (some ⟨g, 0, none⟩)) := hP4.cell 0
      clear HC2 hp2 hPc hCc p3
      have HLE : Hid (r3.length ≤ r.length) := by show _ ≤ _; have := HLE1.out; have := congrArg List.length hcc; rw [List.length_cons] at this; omega
      have HLE2 : Hid (r3.length + 1 ≤ r.length) := by show _ ≤ _; have := HLE1.out; have := congrArg List.length hcc; rw [List.length_cons] at this; omega
      clear hcc HLE1
      clear hk2
      have HCELL := Lib.hid (Nat.le_of_lt hC4.lt)
      have HEA := Lib.hid (peach_any (L := L) (n := n) 88 #[.pointer (some ⟨cb, 0, none⟩), .pointer (some ⟨pb, 0, none⟩)] readStep readStep_eats cb (fun l r W => ReadI g pb cb cb r3.length t l r W)
        (fun s r W W' hi hk => by
          obtain ⟨k1, ⟨v, k2, k3⟩, k4⟩ := hi
          exact ⟨hk.cel k1 HPg.out.1, ⟨v, hk.cel k2 HCg.out, hk.own k3 (fun b hb e => by have := (k3.lt b hb).1; have := HCG2.out; omega)⟩, k4⟩)
        (fun s r W hi => ⟨hi.1, hi.2.1, by have := hi.2.2; rw [List.length_drop]; omega⟩) (fun _ _ => (by kernel_rfl))
        (fun s r W hp hi hD => pclear1_any pb cb cb r3.length t (Nat.le_trans HS0.out HCW.out) (Nat.le_refl _) (by have := HRL.out; have := HLE.out; omega) s r W hp hi hD)
        [] r3 w4 HP.out ⟨hP4, ⟨_, hC4, World.ownsRow_nil _ _ _ _⟩, by simp⟩ HCELL.out)
      clear hP4 hC4 HCELL
      cases he : eachT readStep [] r3 with
      | error x =>
        obtain ⟨k1, er⟩ := x
        have hHE := HEA.out
        rw [he] at hHE
        have HE2 : Hid (Calls Tryz.prog 87 #[.pointer (some ⟨g, 0, none⟩), .func (.func 88) #[] #[.pointer (some ⟨cb, 0, none⟩), .pointer (some ⟨pb, 0, none⟩)]] w4 fun e w' => e = .panicked [FlawE (placeK L n k1) er] ∧ OnlyZ g cb w4 w') := hHE
        have hR1 := HR.out
        rw [he] at hR1
        have HR1 : Hid (R = .error (k1, er)) := hR1
        have HS : Hid (∀ w', OnlyZ g cb w4 w' → Since w0 w') := fun w' hk => only_new0 HX.out.prs (only_z HG.out hk HCW.out)
        clear HEA hHE he HR hR1 HX HG HP HLL I5 hgood
        go_wp2_with fail
        refine HE2.out.mono ?_
        rintro e w5 ⟨rfl, hk5⟩
        go_wp2_with fail
        exact ⟨rfl, hbad.out _ _ _ HR1.out (HS.out _ hk5)⟩
      | ok x =>
        obtain ⟨l, r5⟩ := x
        have hHE := HEA.out
        rw [he] at hHE
        have HE2 : Hid (Calls Tryz.prog 87 #[.pointer (some ⟨g, 0, none⟩), .func (.func 88) #[] #[.pointer (some ⟨cb, 0, none⟩), .pointer (some ⟨pb, 0, none⟩)]] w4 fun e w' => e = .returned (.tuple #[]) ∧ Prs w0 w' g lv L n r5 c3 c4 (.slice va C.length vc) c6 c7 c8 c9 (.map (some b)) ∧ ReadI g pb cb cb r3.length t l r5 w' ∧ OnlyZ g cb w4 w') := hHE
        have hR1 := HR.out
        rw [he] at hR1
        simp only at hR1
        replace HR := Lib.hid hR1
        clear HEA hHE hR1
        go_wp2_with fail
        refine HE2.out.mono ?_
        rintro e w5 ⟨rfl, hp5, ⟨hP5a, ⟨v, hK5a, hO5⟩, hm5⟩, hk5⟩
        obtain ⟨ra, rc, rfl⟩ := own_slice hO5
        clear HE2
        have HLb : Hid (OnlyG g w w5) := only_z HG.out hk5 HCW.out
        have hX5 := HX.out.only HLb.out hp5 (by have := HLE.out; obtain ⟨p, _, hp⟩ := eachT_eats readStep_eats _ _ _ _ he; rw [hp, List.length_append] at this; omega)
        have hm : st.p.cl.length + 1 + r5.length ≤ 70000 := by have := HLR.out; have := HLE2.out; obtain ⟨p, _, hp⟩ := eachT_eats readStep_eats _ _ _ _ he; rw [hp, List.length_append] at this; omega
        have HX5 := Lib.hid (hX5.next (Since.refl w5).drew)
        have hP5 := hP5a.next (Since.refl w5).drew
        have hK5 := hK5a.next (Since.refl w5).drew
        have hU5 := own_base (own_since hO5 (Since.refl w5).drew) HCW.out
        have hT : At w5.drew pb 0 #[.pointer (some ⟨g, 0, none⟩)] ∧ At w5.drew cb 0 #[.string ⟨t.toArray⟩, .slice ra l.length rc] := ⟨hP5.at, hK5.at⟩
        have hc0 : w5.drew.cell? ⟨g, 5, none⟩ = some (.slice va C.length vc) := HX5.out.prs.par.cel.cell 5
        clear hX5 hk5 HLb hO5 hP5a hK5a hm5 he HG hp5 HP HLE HLE2 HLR
        go_upto_region 4 with (fail)
        refine hx_begin (S := fun W => At W pb 0 #[.pointer (some ⟨g, 0, none⟩)] ∧ At W cb 0 #[.string ⟨t.toArray⟩, .slice ra l.length rc]) (by kernel_rfl) hT (by kernel_rfl) (fun _ _ _ _ _ h => h) (fun hns hQ => ?_)
        refine hx_take (i := 0) (oi := _) (v := .pointer (some ⟨g, 0, none⟩)) rfl rfl hns (by kernel_rfl) (by kernel_rfl) hQ (by kernel_rfl) (fun W hW => ld_one rfl (by kernel_rfl) (by kernel_rfl) W (hW.1 0 _ rfl)) hT ?_
        refine hx_take (i := 1) (oi := _) (v := .pointer (some ⟨g, 0, none⟩)) rfl rfl hns (by kernel_rfl) (by kernel_rfl) hQ (by kernel_rfl) (fun W hW => ld_one rfl (by kernel_rfl) (by kernel_rfl) W (hW.1 0 _ rfl)) hT ?_
        refine hx_take (i := 2) (oi := _) (v := .pointer (some ⟨g, 0, none⟩)) rfl rfl hns (by kernel_rfl) (by kernel_rfl) hQ (by kernel_rfl) (fun _ _ => (by kernel_rfl)) hT ?_
        refine hx_take (i := 3) (oi := _) (v := .pointer (some ⟨g, 3, none⟩)) rfl rfl hns (by kernel_rfl) (by kernel_rfl) hQ (by kernel_rfl) (fun _ _ => (by kernel_rfl)) hT ?_
        refine hx_take (i := 4) (oi := _) (v := .pointer (some ⟨g, 5, none⟩)) rfl rfl hns (by kernel_rfl) (by kernel_rfl) hQ (by kernel_rfl) (fun _ _ => (by kernel_rfl)) hT ?_
        refine hx_take (i := 6) (oi := _) (v := .agg #[.string ⟨t.toArray⟩, .slice ra l.length rc]) rfl rfl hns (by kernel_rfl) (by kernel_rfl) hQ (by kernel_rfl) (fun W hW => ld_at rfl (by kernel_rfl) (by kernel_rfl) (by kernel_rfl) W hW.2) hT ?_
        refine hx_two_vv (i := 5) (j := 7) (oi := _) (oj := _) (.slice va C.length vc) w5.drew (.slice (some ⟨w5.drew.heap.size, 0, none⟩) 1 1) (w5.drew.alloc (.cells #[.string ⟨t.toArray⟩, .slice ra l.length rc] 38)) rfl rfl (by kernel_rfl) (by kernel_rfl) (by kernel_rfl) rfl (ld_one rfl (by kernel_rfl) (by kernel_rfl) _ hc0) hT rfl (by kernel_rfl) (⟨hT.1.next ((Since.refl _).alloc _), hT.2.next ((Since.refl _).alloc _)⟩) ?_ ?_
        · skip
          have hS6 : Since w5.drew (w5.drew.alloc (.cells #[.string ⟨t.toArray⟩, .slice ra l.length rc] 38)) := (Since.refl _).alloc _
          have hX6 := HX5.out.next hS6
          have hP6 := hP5.next hS6
          have hK6 := hK5.next hS6
          have hU6 := own_since hU5 hS6
          have hRD := reads_celR (heap_alloc_new w5.drew (.cells #[.string ⟨t.toArray⟩, .slice ra l.length rc] 38)) (K := 2) rfl
          have hDD : w0.heap.size ≤ (w5.drew.alloc (.cells #[.string ⟨t.toArray⟩, .slice ra l.length rc] 38)).heap.size := hX6.prs.sin.size
          have hTb : At (w5.drew.alloc (.cells #[.string ⟨t.toArray⟩, .slice ra l.length rc] 38)) pb 0 #[.pointer (some ⟨g, 0, none⟩)] ∧ At (w5.drew.alloc (.cells #[.string ⟨t.toArray⟩, .slice ra l.length rc] 38)) cb 0 #[.string ⟨t.toArray⟩, .slice ra l.length rc] := ⟨hP6.at, hK6.at⟩
          have hcn : ¬ some cb = (Value.slice va C.length vc).ownBlock := fun e => by have l1 := (HX.out.own.cl.row.lt cb e.symm).2; have := HCW.out; omega
          refine hx_make (i := 7) (oi := _) (.slice (some ⟨w5.drew.heap.size, 0, none⟩) 1 1) (w5.drew.alloc (.cells #[.string ⟨t.toArray⟩, .slice ra l.length rc] 38)) rfl rfl (by kernel_rfl) (by kernel_rfl) (by kernel_rfl) hTb ?_
          refine hx_append (i := 8) (oi := _) (.tmp 16) (.tmp 18) 25 w0.heap.size 38 i5 (.agg #[.string ByteArray.empty, .slice none 0 0]) 2 40 (.slice va C.length vc) C.length _ _ (some ⟨w5.drew.heap.size, 0, none⟩) 1 1 (#[.string ⟨t.toArray⟩, .slice ra l.length rc] : Array Value).toList rfl rfl (by kernel_rfl) (by kernel_rfl) rfl Tryz.underlying25 I5.out.1 I5.out.2.1 I5.out.2.2.1 I5.out.2.2.2 rfl (by decide) (by kernel_rfl) hX6.own.cl.row (by kernel_rfl) hRD (by simp [Value.oneCell']) (by have := HLL.out; unfold maxLen; omega) (by have := HLL.out; omega) hDD ?_
          intro v6 w6 hown6 hg6 hat6
          obtain ⟨a6, c6', rfl⟩ := own_slice hown6
          have hC6 := (prs_grow hX6.prs hX6.own.cl.row hg6 (by decide) (by decide)).par.cel
          have hf := Lib.hid (push_cl (x := (t, l)) hX6 HX.out hU6 hown6 hg6 hat6 hm)
          have hT6 : At w6 pb 0 #[.pointer (some ⟨g, 0, none⟩)] ∧ At w6 cb 0 #[.string ⟨t.toArray⟩, .slice ra l.length rc] := ⟨(cel_own hP6 hX6.own.cl.row (by decide) hg6).at, (hK6.grown hg6 hcn).at⟩
          refine ⟨hT6, ?_⟩
          refine hx_take (i := 9) (oi := _) (v := .pointer (some ⟨g, 0, none⟩)) rfl rfl hns (by kernel_rfl) (by kernel_rfl) hQ (by kernel_rfl) (fun _ _ => (by kernel_rfl)) hT6 ?_
          refine hx_take (i := 10) (oi := _) (v := .pointer (some ⟨g, 3, none⟩)) rfl rfl hns (by kernel_rfl) (by kernel_rfl) hQ (by kernel_rfl) (fun _ _ => (by kernel_rfl)) hT6 ?_
          refine hx_take (i := 11) (oi := _) (v := .pointer (some ⟨g, 5, none⟩)) rfl rfl hns (by kernel_rfl) (by kernel_rfl) hQ (by kernel_rfl) (fun _ _ => (by kernel_rfl)) hT6 ?_
          have hT7 : At (w6.setCell ⟨g, 5, none⟩ (.slice a6 (C.length + 1) c6')) pb 0 #[.pointer (some ⟨g, 0, none⟩)] ∧ At (w6.setCell ⟨g, 5, none⟩ (.slice a6 (C.length + 1) c6')) cb 0 #[.string ⟨t.toArray⟩, .slice ra l.length rc] := ⟨((cel_own hP6 hX6.own.cl.row (by decide) hg6).far (p := ⟨g, 5, none⟩) HPg.out.1 _).at, ((hK6.grown hg6 hcn).far (p := ⟨g, 5, none⟩) HCg.out _).at⟩
          refine hx_store (i := 12) (oi := _) (w6.setCell ⟨g, 5, none⟩ (.slice a6 (C.length + 1) c6')) rfl rfl (by kernel_rfl) (by kernel_rfl) (st_cl rfl (by kernel_rfl) (by kernel_rfl) _ hC6 rfl) hT7 ?_
          refine wpAnyH_done (by kernel_rfl) ?_ _
          clear hns hQ
          simp only [List.set_cons_zero, List.set_cons_succ]
          clear hC6 hat6 hown6 hg6 hX6 hRD hDD hT6 hT7 hT hP6 hK6 hU6 hP5 hK5 hU5 HX5 HX I5 i5 HLL
          go_wp2_with fail
          go_end0
          exact hgood.out _ _ _ HR.out hf.out
        · skip
          have hS6 : Since w5.drew (w5.drew.alloc (.cells #[.string ⟨t.toArray⟩, .slice ra l.length rc] 38)) := (Since.refl _).alloc _
          have hX6 := HX5.out.next hS6
          have hP6 := hP5.next hS6
          have hK6 := hK5.next hS6
          have hU6 := own_since hU5 hS6
          have hRD := reads_celR (heap_alloc_new w5.drew (.cells #[.string ⟨t.toArray⟩, .slice ra l.length rc] 38)) (K := 2) rfl
          have hDD : w0.heap.size ≤ (w5.drew.alloc (.cells #[.string ⟨t.toArray⟩, .slice ra l.length rc] 38)).heap.size := hX6.prs.sin.size
          have hTb : At (w5.drew.alloc (.cells #[.string ⟨t.toArray⟩, .slice ra l.length rc] 38)) pb 0 #[.pointer (some ⟨g, 0, none⟩)] ∧ At (w5.drew.alloc (.cells #[.string ⟨t.toArray⟩, .slice ra l.length rc] 38)) cb 0 #[.string ⟨t.toArray⟩, .slice ra l.length rc] := ⟨hP6.at, hK6.at⟩
          have hcn : ¬ some cb = (Value.slice va C.length vc).ownBlock := fun e => by have l1 := (HX.out.own.cl.row.lt cb e.symm).2; have := HCW.out; omega
          refine hx_make (i := 5) (oi := _) (.slice va C.length vc) (w5.drew.alloc (.cells #[.string ⟨t.toArray⟩, .slice ra l.length rc] 38)) rfl rfl (by kernel_rfl) (by kernel_rfl) (ld_one rfl (by kernel_rfl) (by kernel_rfl) _ (hX6.prs.par.cel.cell 5)) hTb ?_
          refine hx_append (i := 8) (oi := _) (.tmp 16) (.tmp 18) 25 w0.heap.size 38 i5 (.agg #[.string ByteArray.empty, .slice none 0 0]) 2 40 (.slice va C.length vc) C.length _ _ (some ⟨w5.drew.heap.size, 0, none⟩) 1 1 (#[.string ⟨t.toArray⟩, .slice ra l.length rc] : Array Value).toList rfl rfl (by kernel_rfl) (by kernel_rfl) rfl Tryz.underlying25 I5.out.1 I5.out.2.1 I5.out.2.2.1 I5.out.2.2.2 rfl (by decide) (by kernel_rfl) hX6.own.cl.row (by kernel_rfl) hRD (by simp [Value.oneCell']) (by have := HLL.out; unfold maxLen; omega) (by have := HLL.out; omega) hDD ?_
          intro v6 w6 hown6 hg6 hat6
          obtain ⟨a6, c6', rfl⟩ := own_slice hown6
          have hC6 := (prs_grow hX6.prs hX6.own.cl.row hg6 (by decide) (by decide)).par.cel
          have hf := Lib.hid (push_cl (x := (t, l)) hX6 HX.out hU6 hown6 hg6 hat6 hm)
          have hT6 : At w6 pb 0 #[.pointer (some ⟨g, 0, none⟩)] ∧ At w6 cb 0 #[.string ⟨t.toArray⟩, .slice ra l.length rc] := ⟨(cel_own hP6 hX6.own.cl.row (by decide) hg6).at, (hK6.grown hg6 hcn).at⟩
          refine ⟨hT6, ?_⟩
          refine hx_take (i := 9) (oi := _) (v := .pointer (some ⟨g, 0, none⟩)) rfl rfl hns (by kernel_rfl) (by kernel_rfl) hQ (by kernel_rfl) (fun _ _ => (by kernel_rfl)) hT6 ?_
          refine hx_take (i := 10) (oi := _) (v := .pointer (some ⟨g, 3, none⟩)) rfl rfl hns (by kernel_rfl) (by kernel_rfl) hQ (by kernel_rfl) (fun _ _ => (by kernel_rfl)) hT6 ?_
          refine hx_take (i := 11) (oi := _) (v := .pointer (some ⟨g, 5, none⟩)) rfl rfl hns (by kernel_rfl) (by kernel_rfl) hQ (by kernel_rfl) (fun _ _ => (by kernel_rfl)) hT6 ?_
          have hT7 : At (w6.setCell ⟨g, 5, none⟩ (.slice a6 (C.length + 1) c6')) pb 0 #[.pointer (some ⟨g, 0, none⟩)] ∧ At (w6.setCell ⟨g, 5, none⟩ (.slice a6 (C.length + 1) c6')) cb 0 #[.string ⟨t.toArray⟩, .slice ra l.length rc] := ⟨((cel_own hP6 hX6.own.cl.row (by decide) hg6).far (p := ⟨g, 5, none⟩) HPg.out.1 _).at, ((hK6.grown hg6 hcn).far (p := ⟨g, 5, none⟩) HCg.out _).at⟩
          refine hx_store (i := 12) (oi := _) (w6.setCell ⟨g, 5, none⟩ (.slice a6 (C.length + 1) c6')) rfl rfl (by kernel_rfl) (by kernel_rfl) (st_cl rfl (by kernel_rfl) (by kernel_rfl) _ hC6 rfl) hT7 ?_
          refine wpAnyH_done (by kernel_rfl) ?_ _
          clear hns hQ
          simp only [List.set_cons_zero, List.set_cons_succ]
          clear hC6 hat6 hown6 hg6 hX6 hRD hDD hT6 hT7 hT hP6 hK6 hU6 hP5 hK5 hU5 HX5 HX I5 i5 HLL
          go_wp2_with fail
          go_end0
          exact hgood.out _ _ _ HR.out hf.out
end Go.Proofs.YtnfjjckbgnieeaaGreatDoor
