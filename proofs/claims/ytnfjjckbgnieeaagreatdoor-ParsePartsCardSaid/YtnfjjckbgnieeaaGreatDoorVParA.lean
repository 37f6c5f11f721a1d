/- The parser in memory; fail, text, skip, must, name. The parser: must, name; which texts may stand where. The parser: numbers; sorts of texts. The parser within a call: names, must, skip, each. -/
import Derived.Test.YtnfjjckbgnieeaaGreatDoorVKeep
import Derived.Test.YtnfjjckbgnieeaaGreatDoorVPaP
import Derived.Test.YtnfjjckbgnieeaaGreatDoorVLexA
import Derived.Test.YtnfjjckbgnieeaaGreatDoorVLexV
import Derived.Test.YtnfjjckbgnieeaaGreatDoorVAuto
import Derived.Test.YtnfjjckbgnieeaaGreatDoorVSpell
import Derived.Test.YtnfjjckbgnieeaaGreatDoorVNmP
import Derived.Shelf.Strings.SlTrimAscii
import Derived.Lib.AtoiErrMem
import Derived.Lib.AppendIntMem
import Derived.Deep.LoopGhost
namespace Go.Proofs.YtnfjjckbgnieeaaGreatDoor
open Go.RowKit

def TkAt (W : World) (b o : Nat) (t : Tk) : Prop := W.cell? ⟨b, o, none⟩ = some (.int .i64 t.1) ∧ W.cell? ⟨b, o + 1, none⟩ = some (.string ⟨t.2.1.toArray⟩) ∧ W.cell? ⟨b, o + 2, none⟩ = some (.int .i64 (t.2.2 : Int))
abbrev TkRow := KRow 3 TkAt
theorem own_tkrow {W : World} {B : Nat} {v : Value} {L : List Tk} (h : W.ownsRow B 63 3 v L.length (L.flatMap tkL)) : TkRow W v L := by
  obtain ⟨a, c, rfl⟩ := own_slice h
  rcases row_of_own h with ⟨h1, h2, h3⟩ | ⟨b, o, c', h1, h2, h3⟩
  · injection h1 with e1 e2 e3
    subst e1 e3
    have : L = [] := List.eq_nil_of_length_eq_zero h2
    subst this
    exact KRow.nil _ _
  · injection h1 with e1 e2 e3
    subst e1 e3
    refine ⟨_, _, rfl, h2, fun h0 => ⟨b, o, rfl, fun k hk => ?_⟩⟩
    obtain ⟨k0, k1, k2⟩ := tk_cells h3 hk
    rw [Nat.mul_comm 3 k] at k0 k1 k2
    exact ⟨k0, k1, k2⟩
/-- What is panicked with. -/
def FlawE (p : Nat) (er : Int) : PanicEntry := { v := .iface 104 (.agg #[.int .i64 (p : Int), .int .i64 er]), recovered := false }
/-- The place of a token; behind the last one the text's end. -/
def placeI (L : List Tk) (n j : Nat) : Nat := match L[j]? with
  | some t => t.2.2
  | none => n
theorem place_of {L : List Tk} {n : Nat} {p r : Toks} (_h : txtsK L = p ++ r) : placeI L n (L.length - r.length) = placeK L n r.length := by
  unfold placeI placeK
  cases hd : L.drop (L.length - r.length) with
  | nil => rw [List.getElem?_eq_none (by have := congrArg List.length hd; simp at this; omega)]
  | cons t q =>
    have : L[L.length - r.length]? = some t := by
      have := congrArg (fun l => l[0]?) hd
      simpa using this
    rw [this]
def txtI (L : List Tk) (j : Nat) : Txt := match L[j]? with
  | some t => t.2.1
  | none => []
theorem txt_of {L : List Tk} {p r : Toks} (h : txtsK L = p ++ r) (d : Nat) : txtI L (L.length - r.length + d) = (r.drop d).headD [] := by
  have hl : L.length = p.length + r.length := by have := congrArg List.length h; simpa [txtsK] using this
  have e : L.length - r.length = p.length := by omega
  rw [e]
  unfold txtI
  have h2 : (txtsK L)[p.length + d]? = (r.drop d)[0]? := by
    rw [h, List.getElem?_append_right (by omega), List.getElem?_drop]
    congr 1
    omega
  unfold txtsK at h2
  rw [List.getElem?_map] at h2
  cases hx : L[p.length + d]? with
  | none =>
    rw [hx] at h2
    cases hd : r.drop d with
    | nil => rfl
    | cons a b => rw [hd] at h2; cases h2
  | some t =>
    rw [hx] at h2
    cases hd : r.drop d with
    | nil => rw [hd] at h2; cases h2
    | cons a b => rw [hd] at h2; injection h2
/-- The parser's block: which tokens are left, what its other cells hold. -/
structure Par (W : World) (g : Nat) (lv : Value) (L : List Tk) (n : Nat) (r : Toks) (c3 c4 c5 c6 c7 c8 c9 c10 : Value) : Prop where
  cel : Cel W g #[lv, .int .i64 ((L.length - r.length : Nat) : Int), .int .i64 (n : Int), c3, c4, c5, c6, c7, c8, c9, c10] 83
  row : W.ownsRow 0 63 3 lv L.length (L.flatMap tkL)
  suf : ∃ p, txtsK L = p ++ r
  len : L.length ≤ 65536
abbrev OnlyG (g : Nat) : World → World → Prop := Keep (fun b => b = g)
section
variable {W W' : World} {g : Nat} {lv : Value} {L : List Tk} {n : Nat} {r : Toks} {c3 c4 c5 c6 c7 c8 c9 c10 : Value}
theorem Par.next (h : Par W g lv L n r c3 c4 c5 c6 c7 c8 c9 c10) (hs : Since W W') : Par W' g lv L n r c3 c4 c5 c6 c7 c8 c9 c10 := ⟨h.cel.next hs, own_since h.row hs, h.suf, h.len⟩
theorem Par.keep {Z : Nat → Prop} (h : Par W g lv L n r c3 c4 c5 c6 c7 c8 c9 c10) (hk : Keep Z W W') (hg : ¬ Z g) (hl : ∀ b, lv.ownBlock = some b → ¬ Z b) : Par W' g lv L n r c3 c4 c5 c6 c7 c8 c9 c10 := ⟨hk.cel h.cel hg, hk.own h.row hl, h.suf, h.len⟩
theorem Par.le (h : Par W g lv L n r c3 c4 c5 c6 c7 c8 c9 c10) : r.length ≤ L.length := by
  obtain ⟨p, hp⟩ := h.suf
  have := congrArg List.length hp
  simp [txtsK] at this
  omega
theorem Par.off (h : Par W g lv L n r c3 c4 c5 c6 c7 c8 c9 c10) : ∀ b, lv.ownBlock = some b → ¬ (b = g) := fun b hb e => by
  subst e
  exact cel_own_ne h.cel h.row (by decide) hb.symm
/-- One text more is passed. -/
theorem Par.step {t : Txt} (h : Par W g lv L n (t :: r) c3 c4 c5 c6 c7 c8 c9 c10) : Par (W.setCell ⟨g, 1, none⟩ (.int .i64 ((L.length - (t :: r).length : Nat) + 1 : Int))) g lv L n r c3 c4 c5 c6 c7 c8 c9 c10 ∧ OnlyG g W (W.setCell ⟨g, 1, none⟩ (.int .i64 ((L.length - (t :: r).length : Nat) + 1 : Int))) := by
  have hle := h.le
  obtain ⟨p, hp⟩ := h.suf
  have hg := grown_setCell W g 1 (.int .i64 ((L.length - (t :: r).length : Nat) + 1 : Int))
  refine ⟨⟨h.cel.set ?_, h.row.kept hg (own_cel_ne h.row h.cel (by decide)), ⟨p ++ [t], by rw [hp]; simp⟩, h.len⟩, Keep.of_grown hg fun b hb => by injection hb with hb; exact hb.symm⟩
  rw [show ((L.length - r.length : Nat) : Int) = ((L.length - (t :: r).length : Nat) : Int) + 1 by rw [List.length_cons] at hle ⊢; omega]
  rfl
end
set_option maxHeartbeats 1000000 in
theorem pfail_at {g : Nat} {lv : Value} {L : List Tk} {n : Nat} {r : Toks} {c3 c4 c5 c6 c7 c8 c9 c10 : Value} (j : Nat) (er : Int) (w : World) (h : Par w g lv L n r c3 c4 c5 c6 c7 c8 c9 c10) :
    Calls Tryz.prog 74 #[.pointer (some ⟨g, 0, none⟩), .int .i64 (j : Int), .int .i64 er] w fun e w' => e = .panicked [FlawE (placeI L n j) er] ∧ Since w w' := by
  have hrow := own_tkrow h.row
  obtain ⟨la, lc, rfl⟩ := hrow.slice
  have c0 : w.cell? ⟨g, 0, none⟩ = some (.slice la L.length lc) := h.cel.cell 0
  have c2 : w.cell? ⟨g, 2, none⟩ = some (.int .i64 (n : Int)) := h.cel.cell 2
  have HR := Lib.hid hrow
  clear h hrow
  by_cases hj : j < L.length
  · have h1 : (j : Int) < (L.length : Int) := by omega
    have h2 : (0 : Int) ≤ (j : Int) := by omega
    obtain ⟨b, o, rfl, hc, hat⟩ := HR.out.get (by omega)
    have hp : Hid (placeI L n j = (L[j]).2.2) := by show _ = _; unfold placeI; rw [List.getElem?_eq_getElem hj]
    rw [hp.out]
    obtain ⟨p, hpp⟩ : ∃ p, Hid (p = (L[j]).2.2) := ⟨(L[j]).2.2, rfl⟩
    have k2 := (hat j hj).2.2
    rw [← hpp.out] at k2 ⊢
    clear hat HR hp hpp
    go_enter Tryz.func74, Tryz.ntmps74
    go_wp2_with fail
    exact ⟨rfl, rfl, Since.refl _⟩
  · have h1 : ¬ (j : Int) < (L.length : Int) := by omega
    have hp : placeI L n j = n := by unfold placeI; rw [List.getElem?_eq_none (by omega)]
    rw [hp]
    clear HR hp
    go_enter Tryz.func74, Tryz.ntmps74
    go_wp2_with fail
    exact ⟨rfl, rfl, Since.refl _⟩
set_option maxHeartbeats 1000000 in
theorem ptext_at {g : Nat} {lv : Value} {L : List Tk} {n : Nat} {r : Toks} {c3 c4 c5 c6 c7 c8 c9 c10 : Value} (j : Nat) (w : World) (h : Par w g lv L n r c3 c4 c5 c6 c7 c8 c9 c10) :
    Calls Tryz.prog 64 #[.pointer (some ⟨g, 0, none⟩), .int .i64 (j : Int)] w fun e w' => e = .returned (.string ⟨(txtI L j).toArray⟩) ∧ Since w w' := by
  have hrow := own_tkrow h.row
  obtain ⟨la, lc, rfl⟩ := hrow.slice
  have c0 : w.cell? ⟨g, 0, none⟩ = some (.slice la L.length lc) := h.cel.cell 0
  have HR := Lib.hid hrow
  clear h hrow
  by_cases hj : j < L.length
  · have h1 : (j : Int) < (L.length : Int) := by omega
    have h2 : (0 : Int) ≤ (j : Int) := by omega
    obtain ⟨b, o, rfl, hc, hat⟩ := HR.out.get (by omega)
    have hp : Hid (txtI L j = (L[j]).2.1) := by show _ = _; unfold txtI; rw [List.getElem?_eq_getElem hj]
    rw [hp.out]
    obtain ⟨p, hpp⟩ : ∃ p, Hid (p = (L[j]).2.1) := ⟨(L[j]).2.1, rfl⟩
    have k2 := (hat j hj).2.1
    rw [← hpp.out] at k2 ⊢
    clear hat HR hp hpp
    go_enter Tryz.func64, Tryz.ntmps64
    go_wp2_with fail
    go_ret
    exact ⟨rfl, Since.refl _⟩
  · have h1 : ¬ (j : Int) < (L.length : Int) := by omega
    have hp : txtI L j = [] := by unfold txtI; rw [List.getElem?_eq_none (by omega)]
    rw [hp]
    clear HR hp
    go_enter Tryz.func64, Tryz.ntmps64
    go_wp2_with fail
    go_ret
    exact ⟨rfl, Since.refl _⟩
section
variable {g : Nat} {lv : Value} {L : List Tk} {n : Nat} {r : Toks} {c3 c4 c5 c6 c7 c8 c9 c10 : Value}
/-- fail, where the parser stands. -/
theorem pfail_here (er : Int) (w : World) (h : Par w g lv L n r c3 c4 c5 c6 c7 c8 c9 c10) :
    Calls Tryz.prog 74 #[.pointer (some ⟨g, 0, none⟩), .int .i64 ((L.length - r.length : Nat) : Int), .int .i64 er] w fun e w' => e = .panicked [FlawE (placeK L n r.length) er] ∧ Since w w' := by
  obtain ⟨p, hp⟩ := h.suf
  rw [← place_of hp]
  exact pfail_at _ er w h
theorem ptext_here (w : World) (h : Par w g lv L n r c3 c4 c5 c6 c7 c8 c9 c10) :
    Calls Tryz.prog 64 #[.pointer (some ⟨g, 0, none⟩), .int .i64 ((L.length - r.length : Nat) : Int)] w fun e w' => e = .returned (.string ⟨(r.headD []).toArray⟩) ∧ Since w w' := by
  obtain ⟨p, hp⟩ := h.suf
  rw [show r.headD [] = txtI L (L.length - r.length) from (txt_of hp 0).symm]
  exact ptext_at _ w h
set_option maxHeartbeats 1000000 in
theorem pskip_any (s : Txt) (w : World) (h : Par w g lv L n r c3 c4 c5 c6 c7 c8 c9 c10) (hs : s ≠ []) :
    Calls Tryz.prog 92 #[.pointer (some ⟨g, 0, none⟩), .string ⟨s.toArray⟩] w fun e w' => e = .returned (.bool (isT s r)) ∧ Par w' g lv L n (if isT s r = true then r.drop 1 else r) c3 c4 c5 c6 c7 c8 c9 c10 ∧ OnlyG g w w' := by
  have HX := Lib.hid (ptext_here w h)
  have HH := Lib.hid h
  obtain ⟨i, hi⟩ : ∃ i, Hid (i = L.length - r.length) := ⟨_, rfl⟩
  have c1 : w.cell? ⟨g, 1, none⟩ = some (.int .i64 (i : Int)) := by rw [hi.out]; exact h.cel.cell 1
  rw [← hi.out] at HX
  have hwi : wrap64 ((i : Int) + 1) = (i : Int) + 1 := IntWalk.wrap64_in _ (by have := h.len; rw [hi.out]; omega)
  clear h
  cases r with
  | nil =>
    have HS : Hid (([] : Txt) ≠ s) := fun e => hs e.symm
    have hse : s.isEmpty = false := by cases s with | nil => exact absurd rfl hs | cons _ _ => rfl
    have HX2 : Hid (Calls Tryz.prog 64 #[.pointer (some ⟨g, 0, none⟩), .int .i64 (i : Int)] w fun e w' => e = .returned (.string ⟨#[]⟩) ∧ Since w w') := HX.out
    clear HX HS hi
    go_enter Tryz.func92, Tryz.ntmps92
    go_wp2_with fail
    refine HX2.out.mono ?_
    rintro e w2 ⟨rfl, hb⟩
    clear c1 HX2
    go_wp2_with fail
    go_ret
    exact ⟨rfl, HH.out.next hb, Keep.of_since hb⟩
  | cons t q =>
    have HX2 : Hid (Calls Tryz.prog 64 #[.pointer (some ⟨g, 0, none⟩), .int .i64 (i : Int)] w fun e w' => e = .returned (.string ⟨t.toArray⟩) ∧ Since w w') := HX.out
    clear HX
    cases hq : decide (t = s) with
    | false =>
      have hq2 : (t == s) = false := by have := of_decide_eq_false hq; simpa using this
      have hr : Hid (isT s (t :: q) = false) := hq
      rw [hr.out]
      clear hi hr hq
      go_enter Tryz.func92, Tryz.ntmps92
      go_wp2_with fail
      refine HX2.out.mono ?_
      rintro e w2 ⟨rfl, hb⟩
      clear c1 HX2
      go_wp2_with fail
      go_ret
      exact ⟨rfl, HH.out.next hb, Keep.of_since hb⟩
    | true =>
      have e := of_decide_eq_true hq
      have hq2 : (t == s) = true := by rw [e]; exact beq_self_eq_true s
      have hr : Hid (isT s (t :: q) = true) := hq
      rw [hr.out]
      have HP : Hid (∀ w', Since w w' → Par (w'.setCell ⟨g, 1, none⟩ (.int .i64 ((i : Int) + 1))) g lv L n q c3 c4 c5 c6 c7 c8 c9 c10 ∧ OnlyG g w (w'.setCell ⟨g, 1, none⟩ (.int .i64 ((i : Int) + 1)))) := by
        intro w' hb
        have h2 := (HH.out.next hb).step
        rw [← hi.out] at h2
        exact ⟨h2.1, (Keep.of_since hb).trans h2.2 (fun _ h => .inl h)⟩
      have HZ : Hid (∀ w', Since w w' → w'.frozen? ⟨g, 1, none⟩ = false ∧ g < w'.heap.size) := fun w' hb => ⟨(HH.out.next hb).cel.free 1, (HH.out.next hb).cel.lt⟩
      clear hi hr hq HH hs e
      go_enter Tryz.func92, Tryz.ntmps92
      go_wp2_with fail
      refine HX2.out.mono ?_
      rintro e w2 ⟨rfl, hb⟩
      replace c1 := hb.cell c1
      obtain ⟨z1, z2⟩ := HZ.out _ hb
      clear HX2 HZ
      go_wp2_with fail
      go_ret
      exact ⟨rfl, HP.out _ hb⟩
end
end Go.Proofs.YtnfjjckbgnieeaaGreatDoor

namespace Go.Proofs.YtnfjjckbgnieeaaGreatDoor
open Go.RowKit

section
variable {g : Nat} {lv : Value} {L : List Tk} {n : Nat} {r : Toks} {c3 c4 c5 c6 c7 c8 c9 c10 : Value}
set_option maxHeartbeats 1000000 in
theorem pmust_any (s : Txt) (w : World) (h : Par w g lv L n r c3 c4 c5 c6 c7 c8 c9 c10) (hs : s ≠ []) :
    Calls Tryz.prog 66 #[.pointer (some ⟨g, 0, none⟩), .string ⟨s.toArray⟩] w fun e w' => match mustT s r with
      | .error (k, er) => e = .panicked [FlawE (placeK L n k) er] ∧ OnlyG g w w'
      | .ok r1 => e = .returned (.tuple #[]) ∧ Par w' g lv L n r1 c3 c4 c5 c6 c7 c8 c9 c10 ∧ OnlyG g w w' := by
  have HS := Lib.hid (pskip_any s w h hs)
  obtain ⟨b, hb⟩ : ∃ b, Hid (isT s r = b) := ⟨_, rfl⟩
  rw [hb.out] at HS
  have HF := Lib.hid (fun W (h : Par W g lv L n r c3 c4 c5 c6 c7 c8 c9 c10) => pfail_here 3 W h)
  cases b with
  | false =>
    have hr : Hid (mustT s r = .error (r.length, 3)) := by
      show _ = _
      cases r with
      | nil => rfl
      | cons t q =>
        have h1 : decide (t = s) = false := hb.out
        rw [mustT, if_neg (of_decide_eq_false h1)]
        rfl
    rw [hr.out]
    obtain ⟨i, hi⟩ : ∃ i, Hid (i = L.length - r.length) := ⟨_, rfl⟩
    rw [← hi.out] at HF
    have HS2 : Hid (Calls Tryz.prog 92 #[.pointer (some ⟨g, 0, none⟩), .string ⟨s.toArray⟩] w fun e w' => e = .returned (.bool false) ∧ Par w' g lv L n r c3 c4 c5 c6 c7 c8 c9 c10 ∧ OnlyG g w w') := HS.out
    have HC : Hid (∀ W, Par W g lv L n r c3 c4 c5 c6 c7 c8 c9 c10 → W.cell? ⟨g, 1, none⟩ = some (.int .i64 (i : Int))) := fun W h => by rw [hi.out]; exact h.cel.cell 1
    clear HS hr hb hi hs h
    go_enter Tryz.func66, Tryz.ntmps66
    go_wp2_with fail
    refine HS2.out.mono ?_
    rintro e w2 ⟨rfl, hp, hk⟩
    have c1 := HC.out _ hp
    clear HS2 HC
    go_wp2_with fail
    refine (HF.out _ hp).mono ?_
    rintro e w3 ⟨rfl, hb⟩
    go_wp2_with fail
    exact ⟨rfl, rfl, hk.trans (Keep.of_since (Z := fun _ => False) hb) (fun _ h => h.elim)⟩
  | true =>
    have e := isT_yes hb.out
    have hr : Hid (mustT s r = .ok (r.drop 1)) := by
      show _ = _
      rw [e, mustT, if_pos rfl]
      rfl
    rw [hr.out]
    have HS2 : Hid (Calls Tryz.prog 92 #[.pointer (some ⟨g, 0, none⟩), .string ⟨s.toArray⟩] w fun e w' => e = .returned (.bool true) ∧ Par w' g lv L n (r.drop 1) c3 c4 c5 c6 c7 c8 c9 c10 ∧ OnlyG g w w') := HS.out
    clear HS HF hr e hb hs h
    go_enter Tryz.func66, Tryz.ntmps66
    go_wp2_with fail
    refine HS2.out.mono ?_
    rintro e w2 ⟨rfl, hp, hk⟩
    clear HS2
    go_wp2_with fail
    go_end0
    exact ⟨rfl, hp, hk⟩
set_option maxHeartbeats 1000000 in
/-- name, at whatever sort of texts: R is what the sort's test leaves. -/
theorem pname_gen (f : FuncId) (cap : Array Value) (m : Txt → Bool) (R : World → Prop) (w : World) (h : Par w g lv L n r c3 c4 c5 c6 c7 c8 c9 c10) (hf : ∀ args W, (callFunc f args).run Tryz.prog W = .ok (.enter f args) W) (hm0 : m [] = false)
    (hm : ∀ W, Since w W → Calls Tryz.prog f (#[.string ⟨(r.headD []).toArray⟩] ++ cap) W fun e w' => e = .returned (.bool (m (r.headD []))) ∧ R w') (hR : ∀ W, R W → Par W g lv L n r c3 c4 c5 c6 c7 c8 c9 c10) :
    Calls Tryz.prog 83 #[.pointer (some ⟨g, 0, none⟩), .func (.func f) #[] cap] w fun e w' => match nameT m r with
      | .error (k, er) => e = .panicked [FlawE (placeK L n k) er] ∧ ∃ W, R W ∧ Since W w'
      | .ok (t, r1) => e = .returned (.string ⟨t.toArray⟩) ∧ Par w' g lv L n r1 c3 c4 c5 c6 c7 c8 c9 c10 ∧ ∃ W, R W ∧ OnlyG g W w' := by
  have HX := Lib.hid (ptext_here w h)
  obtain ⟨i, hi⟩ : ∃ i, Hid (i = L.length - r.length) := ⟨_, rfl⟩
  have c1 : w.cell? ⟨g, 1, none⟩ = some (.int .i64 (i : Int)) := by rw [hi.out]; exact h.cel.cell 1
  rw [← hi.out] at HX
  have hwi : wrap64 ((i : Int) + 1) = (i : Int) + 1 := IntWalk.wrap64_in _ (by have := h.len; rw [hi.out]; omega)
  have HC : Hid (∀ W, R W → W.cell? ⟨g, 1, none⟩ = some (.int .i64 (i : Int))) := fun W h => by rw [hi.out]; exact (hR W h).cel.cell 1
  have HF : Hid (∀ W, R W → Calls Tryz.prog 74 #[.pointer (some ⟨g, 0, none⟩), .int .i64 (i : Int), .int .i64 3] W fun e w' => e = .panicked [FlawE (placeK L n r.length) 3] ∧ Since W w') := fun W h => by rw [hi.out]; exact pfail_here 3 W (hR W h)
  have HM := Lib.hid hm
  have hres : (nameT m r = .error (r.length, 3) ∧ m (r.headD []) = false) ∨ (∃ t q, r = t :: q ∧ nameT m r = .ok (t, q) ∧ m (r.headD []) = true) := by
    cases r with
    | nil => exact .inl ⟨rfl, hm0⟩
    | cons t q =>
      rw [nameT]
      cases hmt : m t with
      | false => exact .inl ⟨by rw [if_neg (by decide)]; rfl, hmt⟩
      | true => exact .inr ⟨t, q, rfl, by rw [if_pos rfl], hmt⟩
  rcases hres with ⟨e1, e2⟩ | ⟨t, q, e0, e1, e2⟩
  · rw [e1]
    rw [e2] at HM
    obtain ⟨s, hs⟩ : ∃ s, Hid (s = r.headD []) := ⟨_, rfl⟩
    rw [← hs.out] at HX HM
    clear e1 e2 hm hR hm0 hs h hi
    go_enter Tryz.func83, Tryz.ntmps83
    go_wp2_with fail
    refine HX.out.mono ?_
    rintro e w2 ⟨rfl, hb⟩
    clear HX c1
    go_wp2_with fail
    refine (HM.out _ hb).mono ?_
    rintro e w3 ⟨rfl, hw3⟩
    have c3_ := HC.out _ hw3
    clear HM HC hb
    go_wp2_with fail
    refine (HF.out _ hw3).mono ?_
    rintro e w4 ⟨rfl, hb4⟩
    go_wp2_with fail
    exact ⟨rfl, rfl, _, hw3, hb4⟩
  · rw [e1]
    rw [e2] at HM
    subst e0
    have HX2 : Hid (Calls Tryz.prog 64 #[.pointer (some ⟨g, 0, none⟩), .int .i64 (i : Int)] w fun e w' => e = .returned (.string ⟨t.toArray⟩) ∧ Since w w') := HX.out
    have HM2 : Hid (∀ W, Since w W → Calls Tryz.prog f (#[.string ⟨t.toArray⟩] ++ cap) W fun e w' => e = .returned (.bool true) ∧ R w') := HM.out
    have HP : Hid (∀ W, R W → Par (W.setCell ⟨g, 1, none⟩ (.int .i64 ((i : Int) + 1))) g lv L n q c3 c4 c5 c6 c7 c8 c9 c10 ∧ OnlyG g W (W.setCell ⟨g, 1, none⟩ (.int .i64 ((i : Int) + 1)))) := by
      intro W hb
      have h2 := (hR W hb).step
      rw [← hi.out] at h2
      exact h2
    have HZ : Hid (∀ W, R W → W.frozen? ⟨g, 1, none⟩ = false ∧ g < W.heap.size) := fun W hb => ⟨(hR W hb).cel.free 1, (hR W hb).cel.lt⟩
    clear e1 e2 hm hR hm0 h hi HX HM HF
    go_enter Tryz.func83, Tryz.ntmps83
    go_wp2_with fail
    refine HX2.out.mono ?_
    rintro e w2 ⟨rfl, hb⟩
    clear HX2 c1
    go_wp2_with fail
    refine (HM2.out _ hb).mono ?_
    rintro e w3 ⟨rfl, hw3⟩
    have c3_ := HC.out _ hw3
    obtain ⟨z1, z2⟩ := HZ.out _ hw3
    clear HM2 HC hb HZ
    go_wp2_with fail
    go_ret
    obtain ⟨k1, k2⟩ := HP.out _ hw3
    exact ⟨rfl, k1, _, hw3, k2⟩
end
/-- A sort of texts: what a function of the program answers about one, in whatever world that E holds of. -/
theorem pname_rule {g : Nat} {lv : Value} {L : List Tk} {n : Nat} {r : Toks} {c3 c4 c5 c6 c7 c8 c9 c10 : Value} (f : FuncId) (m : Txt → Bool) (w : World) (h : Par w g lv L n r c3 c4 c5 c6 c7 c8 c9 c10) (hf : ∀ args W, (callFunc f args).run Tryz.prog W = .ok (.enter f args) W) (hm0 : m [] = false)
    (hm : ∀ W, Since w W → Calls Tryz.prog f #[.string ⟨(r.headD []).toArray⟩] W fun e w' => e = .returned (.bool (m (r.headD []))) ∧ Since W w') :
    Calls Tryz.prog 83 #[.pointer (some ⟨g, 0, none⟩), .func (.func f) #[] #[]] w fun e w' => match nameT m r with
      | .error (k, er) => e = .panicked [FlawE (placeK L n k) er] ∧ OnlyG g w w'
      | .ok (t, r1) => e = .returned (.string ⟨t.toArray⟩) ∧ Par w' g lv L n r1 c3 c4 c5 c6 c7 c8 c9 c10 ∧ OnlyG g w w' := by
  refine (pname_gen f #[] m (fun W => Since w W) w h hf hm0 (fun W hW => (hm W hW).mono fun e w' h => ⟨h.1, hW.trans h.2⟩) (fun W hW => h.next hW)).mono ?_
  intro e w' hx
  cases hn : nameT m r with
  | error x =>
    obtain ⟨k, er⟩ := x
    rw [hn] at hx
    obtain ⟨h1, W, h2, h3⟩ := hx
    exact ⟨h1, Keep.of_since (h2.trans h3)⟩
  | ok x =>
    obtain ⟨t, r1⟩ := x
    rw [hn] at hx
    obtain ⟨h1, h2, W, h3, h4⟩ := hx
    exact ⟨h1, h2, (Keep.of_since h3).trans h4 (fun _ h => .inl h)⟩
end Go.Proofs.YtnfjjckbgnieeaaGreatDoor

namespace Go.Proofs.YtnfjjckbgnieeaaGreatDoor
open Go.RowKit

def EnvP (w : World) : Prop := Lib.TabIs Tryz.prog w "internal/strconv.uint64pow10" .u64 Lib.pow10Tab
def EnvS (w : World) : Prop := ∃ tp p, w.var? Tryz.prog "strconv.ErrSyntax" = some #[.iface tp p]
def EnvR (w : World) : Prop := ∃ tp p, w.var? Tryz.prog "strconv.ErrRange" = some #[.iface tp p]
theorem globalPow : Tryz.prog.globalNamed "internal/strconv.uint64pow10" = some 7 := by kernel_rfl
theorem globalErrS : Tryz.prog.globalNamed "strconv.ErrSyntax" = some 2 := by kernel_rfl
theorem globalErrR : Tryz.prog.globalNamed "strconv.ErrRange" = some 3 := by kernel_rfl
theorem EnvP.next {w w' : World} (h : EnvP w) (hs : Since w w') : EnvP w' := by
  have h0 : w.var? Tryz.prog "internal/strconv.uint64pow10" = some (Lib.pow10Tab.map fun z => Value.int .u64 z).toArray := h
  refine var?_below hs globalPow ?_ h0
  rcases Nat.lt_or_ge 7 w.heap.size with h' | h'
  · exact h'
  · unfold World.var? at h0
    simp only [globalPow, Option.bind_some, Array.getElem?_eq_none h'] at h0
    cases h0
theorem EnvS.next {w w' : World} (h : EnvS w) (hs : Since w w') : EnvS w' := by
  obtain ⟨tp, p, h0⟩ := h
  refine ⟨tp, p, var?_below hs globalErrS ?_ h0⟩
  rcases Nat.lt_or_ge 2 w.heap.size with h' | h'
  · exact h'
  · unfold World.var? at h0
    simp only [globalErrS, Option.bind_some, Array.getElem?_eq_none h'] at h0
    cases h0
theorem EnvR.next {w w' : World} (h : EnvR w) (hs : Since w w') : EnvR w' := by
  obtain ⟨tp, p, h0⟩ := h
  refine ⟨tp, p, var?_below hs globalErrR ?_ h0⟩
  rcases Nat.lt_or_ge 3 w.heap.size with h' | h'
  · exact h'
  · unfold World.var? at h0
    simp only [globalErrR, Option.bind_some, Array.getElem?_eq_none h'] at h0
    cases h0
/-- The package variables that the parser reads. -/
structure EnvT (w : World) : Prop where
  a : Env w
  p : EnvP w
  s : EnvS w
  r : EnvR w
theorem EnvT.next {w w' : World} (h : EnvT w) (hs : Since w w') : EnvT w' := ⟨h.a.next hs, h.p.next hs, h.s.next hs, h.r.next hs⟩
theorem trim_any (s : Txt) (w : World) (hs : s.length ≤ 1000000) :
    Calls Tryz.prog 108 #[.string ⟨s.toArray⟩, .string ⟨#[48, 49, 50, 51, 52, 53, 54, 55, 56, 57]⟩] w fun e w' => e = .returned (.string ⟨(Lib.trimS s digsL).toArray⟩) ∧ Since w w' :=
  Any.strings_Trim_laid Tryz.lays160 (by kernel_rfl) ⟨s.toArray⟩ ⟨#[48, 49, 50, 51, 52, 53, 54, 55, 56, 57]⟩ w (by show s.length ≤ _; omega) (by decide) (ascii_of_all (by decide))
theorem atoi_bounds {s : Txt} {v : Int} (h : Lib.atoiAll s = .ok v) : -9223372036854775808 ≤ v ∧ v ≤ 9223372036854775807 := by
  cases s with
  | nil => cases h
  | cons c r =>
    unfold Lib.atoiAll at h
    simp only at h
    split at h
    · cases h
    · cases h
    · split at h
      · cases h
      · split at h
        · cases h
        · injection h with h
          split at h <;> omega
theorem itoaZ_any (v : Int) (h0 : -9223372036854775808 ≤ v) (h1 : v ≤ 9223372036854775807) (w : World) (hE : EnvP w) :
    Calls Tryz.prog 109 #[.int .i64 v] w fun e w' => e = .returned (.string ⟨(Lib.itoa v).toArray⟩) ∧ Since w w' := by
  refine (Tryz.strconv_Itoa v h0 h1 w hE).mono ?_
  rintro e w' ⟨rfl, k, os, rfl⟩
  exact ⟨rfl, Lib.below_grow _ _ (Nat.le_refl _) _ _⟩
theorem atoi_end (s : Txt) (w : World) (hs : s.length ≤ 1000000) (hE : EnvT w) :
    Calls Tryz.prog 107 #[.string ⟨s.toArray⟩] w fun e w' => (∃ v, Lib.atoiAll s = .ok v ∧ e = .returned (.tuple #[.int .i64 v, .nilIface]) ∧ Since w w') ∨ (∃ (v : Int) (t : TypeId) (N : Nat), (∀ u, Lib.atoiAll s ≠ .ok u) ∧ e = .returned (.tuple #[.int .i64 v, .iface t (.pointer (some ⟨N, 0, none⟩))]) ∧ Since w w') := by
  have hsz : (ByteArray.mk s.toArray).size = s.length := by simp [ByteArray.size]
  have hdt : (ByteArray.mk s.toArray).data.toList = s := by simp
  cases h : Lib.atoiAll s with
  | ok v =>
    refine (Tryz.strconv_Atoi_ok ⟨s.toArray⟩ (by rw [hsz]; omega) v (by rw [hdt]; exact h) w).mono ?_
    rintro e w' ⟨rfl, rfl | ⟨t, rfl⟩⟩
    · exact .inl ⟨v, rfl, rfl, Since.refl _⟩
    · exact .inl ⟨v, rfl, rfl, Lib.bytesWorld_below _ _ _⟩
  | range =>
    obtain ⟨tp, p, hv⟩ := hE.r
    refine (Tryz.strconv_Atoi_range_var ⟨s.toArray⟩ (by rw [hsz]; omega) (by rw [hdt]; exact h) tp p w hv).mono ?_
    rintro e w' ⟨N, rfl, _, _, hb⟩
    exact .inr ⟨_, _, N, (fun u e => by cases e), rfl, hb⟩
  | _ =>
    obtain ⟨tp, p, hv⟩ := hE.s
    refine (Tryz.strconv_Atoi_syntax_var ⟨s.toArray⟩ (by rw [hsz]; omega) (by rw [hdt]; exact h) tp p w hv).mono ?_
    rintro e w' ⟨N, rfl, _, _, hb⟩
    exact .inr ⟨_, _, N, (fun u e => by cases e), rfl, hb⟩
abbrev OnlyQ (q : Nat) : World → World → Prop := Keep (fun b => b = q)
set_option maxHeartbeats 4000000 in
set_option maxRecDepth 100000 in
theorem number1_any (s : Txt) (q : Nat) (x0 : Int) (w0 w : World) (hs : s.length ≤ 1000000) (hE : EnvT w0) (h0 : Since w0 w) (hq : Cel w q #[.int .i64 x0] 3) (hlo : w0.heap.size ≤ q) :
    Calls Tryz.prog 106 #[.string ⟨s.toArray⟩, .pointer (some ⟨q, 0, none⟩)] w fun e w' => e = .returned (.bool (numB s)) ∧ ∃ v : Int, Cel w' q #[.int .i64 v] 3 ∧ OnlyQ q w w' ∧ (numB s = true → v = ((numV s : Nat) : Int)) := by
  have HAT := Lib.hid (atoi_end s w hs (hE.next h0))
  have HTR := Lib.hid (fun W => trim_any s W hs)
  have HIT := Lib.hid (fun v W h1 h2 (h3 : Since w0 W) => itoaZ_any v h1 h2 W (hE.p.next h3))
  obtain ⟨B, hB⟩ : ∃ b, Hid (b = numB s) := ⟨_, rfl⟩
  obtain ⟨V, hV⟩ : ∃ v : Nat, Hid (v = numV s) := ⟨_, rfl⟩
  rw [← hB.out, ← hV.out]
  have HB : Hid (B = numP s) := by show _ = _; rw [hB.out, numP_eq]
  have HN : Hid (B = true → Lib.atoiAll s = .ok (V : Int)) := fun h => by rw [hV.out]; exact (numB_atoi (hB.out ▸ h)).1
  have HQ := Lib.hid hq
  have H0 := Lib.hid h0
  have HST : Hid (∀ (W : World) (v : Int), Since w W → Cel (W.setCell ⟨q, 0, none⟩ (.int .i64 v)) q #[.int .i64 v] 3 ∧ OnlyQ q w (W.setCell ⟨q, 0, none⟩ (.int .i64 v)) ∧ Since w0 (W.setCell ⟨q, 0, none⟩ (.int .i64 v))) := fun W v hb =>
    ⟨(HQ.out.next hb).set rfl, (Keep.of_since hb).trans (Keep.of_grown (grown_setCell W q 0 _) (fun b hb => by injection hb with hb; exact hb.symm)) (fun _ h => .inl h), (H0.out.trans hb).setCell (p := ⟨q, 0, none⟩) hlo _⟩
  have hn2 : ∀ (t : TypeId) (v : Value) (W : World), (binOp .eql 131 (.iface t v) .nilIface).run Tryz.prog W = .ok (.bool false) W := fun _ _ _ => rfl
  clear hE h0 hq hB hV hlo
  go_enter Tryz.func106, Tryz.ntmps106
  go_wp2_with fail
  refine HAT.out.mono ?_
  rintro e w1 (⟨v, hv, rfl, hb⟩ | ⟨v, t, N, hv, rfl, hb⟩)
  · have c0 : w1.cell? ⟨q, 0, none⟩ = some (.int .i64 x0) := (HQ.out.next hb).cell 0
    have z0 : w1.frozen? ⟨q, 0, none⟩ = false := (HQ.out.next hb).free 0
    have l0 : q < w1.heap.size := (HQ.out.next hb).lt
    obtain ⟨k1, k2, k3⟩ := HST.out w1 v hb
    have HV2 : Hid (B = true → v = (V : Int)) := fun h => by have := HN.out h; rw [hv] at this; injection this
    have hBp := HB.out
    unfold numP at hBp
    rw [hv] at hBp
    obtain ⟨hv1, hv2⟩ := atoi_bounds hv
    have HI2 := Lib.hid (fun W (h3 : Since w0 W) => HIT.out v W hv1 hv2 h3)
    clear HAT hv HQ H0 HST HIT HN HB hv1 hv2
    go_upto_region 3 with (fail)
    generalize w1.setCell ⟨q, 0, none⟩ (.int .i64 v) = w2 at *
    clear c0 z0 l0 hb
    obtain ⟨tq, htq⟩ : ∃ x, Hid (x = Lib.trimS s digsL) := ⟨_, rfl⟩
    obtain ⟨iq, hiq⟩ : ∃ x, Hid (x = Lib.itoa v) := ⟨_, rfl⟩
    rw [← htq.out] at HTR hBp
    rw [← hiq.out] at HI2 hBp
    have hFin : Hid (∀ W', Since w2 W' → ∃ v : Int, Cel W' q #[.int .i64 v] 3 ∧ OnlyQ q w W' ∧ (B = true → v = (V : Int))) := fun W' h => ⟨v, k1.next h, k2.trans (Keep.of_since (Z := fun _ => False) h) (fun _ h => h.elim), HV2.out⟩
    have HK3 := Lib.hid k3
    clear htq hiq k1 k2 k3 HV2
    by_cases h7 : s.length ≤ 7
    · have h7i : (s.length : Int) ≤ 7 := by omega
      cases ht : decide (tq = []) with
      | false =>
        have hte : tq.isEmpty = false := by cases tq with | nil => exact absurd ht (by decide) | cons _ _ => rfl
        rw [ht] at hBp
        obtain rfl : B = false := by rw [hBp]; simp
        clear hBp ht
        go_wp2_with fail
        refine (HTR.out _).mono ?_
        rintro e w3 ⟨rfl, hb3⟩
        go_wp2_with fail
        go_ret
        exact ⟨rfl, hFin.out _ hb3⟩
      | true =>
        have e := of_decide_eq_true ht
        subst e
        rw [ht, decide_eq_true h7] at hBp
        simp only [Bool.true_and] at hBp
        have HTR2 : Hid (∀ W, Calls Tryz.prog 108 #[.string ⟨s.toArray⟩, .string ⟨#[48, 49, 50, 51, 52, 53, 54, 55, 56, 57]⟩] W fun e w' => e = .returned (.string ⟨#[]⟩) ∧ Since W w') := HTR.out
        clear ht HTR
        have hBi : (iq == s) = B := by rw [hBp]; cases hd : decide (iq = s) with | true => simp [of_decide_eq_true hd] | false => simp [of_decide_eq_false hd]
        clear hBp
        cases B with
        | false =>
          go_wp2_with fail
          refine (HTR2.out _).mono ?_
          rintro e w3 ⟨rfl, hb3⟩
          go_wp2_with fail
          refine (HI2.out _ (HK3.out.trans hb3)).mono ?_
          rintro e w4 ⟨rfl, hb4⟩
          go_wp2_with fail
          go_ret
          exact ⟨rfl, hFin.out _ (hb3.trans hb4)⟩
        | true =>
          go_wp2_with fail
          refine (HTR2.out _).mono ?_
          rintro e w3 ⟨rfl, hb3⟩
          go_wp2_with fail
          refine (HI2.out _ (HK3.out.trans hb3)).mono ?_
          rintro e w4 ⟨rfl, hb4⟩
          go_wp2_with fail
          go_ret
          obtain ⟨v', x1, x2, x3⟩ := hFin.out _ (hb3.trans hb4)
          obtain rfl := x3 trivial
          exact ⟨rfl, x1, x2⟩
    · have h7i : ¬ (s.length : Int) ≤ 7 := by omega
      rw [decide_eq_false h7] at hBp
      obtain rfl : B = false := by rw [hBp]; simp
      clear hBp
      go_wp2_with fail
      go_ret
      obtain ⟨v', x1, x2, x3⟩ := hFin.out _ (Since.refl _)
      exact ⟨rfl, ⟨v', x1⟩, x2⟩
  · have c0 : w1.cell? ⟨q, 0, none⟩ = some (.int .i64 x0) := (HQ.out.next hb).cell 0
    have z0 : w1.frozen? ⟨q, 0, none⟩ = false := (HQ.out.next hb).free 0
    have l0 : q < w1.heap.size := (HQ.out.next hb).lt
    obtain ⟨k1, k2, k3⟩ := HST.out w1 v hb
    have hBp := HB.out
    unfold numP at hBp
    obtain rfl : B = false := by
      rw [hBp]
      cases hx : Lib.atoiAll s with
      | ok u => exact absurd hx (hv u)
      | range => rfl
      | _ => rfl
    clear HAT hv HQ H0 HST HIT HN HB HTR hBp k3
    go_wp2_with fail
    go_ret
    exact ⟨rfl, v, k1, k2, fun h => by cases h⟩
/-- The parser within a call that began in w0. -/
structure Prs (w0 W : World) (g : Nat) (lv : Value) (L : List Tk) (n : Nat) (r : Toks) (c3 c4 c5 c6 c7 c8 c9 c10 : Value) : Prop where
  par : Par W g lv L n r c3 c4 c5 c6 c7 c8 c9 c10
  sin : Since w0 W
  low : w0.heap.size ≤ g
  env : EnvT w0
  fit : ∀ x ∈ txtsK L, x.length ≤ 65536
section
variable {w0 w w' : World} {g : Nat} {lv : Value} {L : List Tk} {n : Nat} {r r' : Toks} {c3 c4 c5 c6 c7 c8 c9 c10 : Value}
theorem Prs.next (h : Prs w0 w g lv L n r c3 c4 c5 c6 c7 c8 c9 c10) (hs : Since w w') : Prs w0 w' g lv L n r c3 c4 c5 c6 c7 c8 c9 c10 := ⟨h.par.next hs, h.sin.trans hs, h.low, h.env, h.fit⟩
theorem Prs.only (h : Prs w0 w g lv L n r c3 c4 c5 c6 c7 c8 c9 c10) (hk : OnlyG g w w') (hp : Par w' g lv L n r' c3 c4 c5 c6 c7 c8 c9 c10) : Prs w0 w' g lv L n r' c3 c4 c5 c6 c7 c8 c9 c10 := ⟨hp, hk.since h.sin (fun x hx => by rw [hx]; exact h.low), h.low, h.env, h.fit⟩
theorem Prs.fits (h : Prs w0 w g lv L n r c3 c4 c5 c6 c7 c8 c9 c10) : ∀ t ∈ r, t.length ≤ 65536 := by
  obtain ⟨p, hp⟩ := h.par.suf
  exact fun t ht => h.fit t (by rw [hp]; exact List.mem_append_right _ ht)
set_option maxHeartbeats 1000000 in
set_option maxRecDepth 100000 in
theorem pnumber_any (h : Prs w0 w g lv L n r c3 c4 c5 c6 c7 c8 c9 c10) :
    Calls Tryz.prog 86 #[.pointer (some ⟨g, 0, none⟩)] w fun e w' => match numT r with
      | .error (k, er) => e = .panicked [FlawE (placeK L n k) er] ∧ OnlyG g w w'
      | .ok (v, r1) => e = .returned (.int .i64 (v : Int)) ∧ Prs w0 w' g lv L n r1 c3 c4 c5 c6 c7 c8 c9 c10 ∧ OnlyG g w w' := by
  have hmf : ∀ (fn : Fn) (first cap : Array Value) (w : World), (Instr.makeFunc fn first cap).run Tryz.prog w = .ok (.func fn first cap) w := fun _ _ _ _ => rfl
  have hS1 : Since w (w.alloc (.cells #[.int .i64 0] 3)) := (Since.refl w).alloc _
  have hC1 : Cel (w.alloc (.cells #[.int .i64 0] 3)) w.heap.size #[.int .i64 0] 3 := heap_alloc_new w _
  have hE := h.env
  have hL : ∀ t ∈ r, t.length ≤ 1000000 := fun t ht => Nat.le_trans (h.fits t ht) (by decide)
  have hlr : (r.headD []).length ≤ 1000000 := by
    cases r with
    | nil => exact Nat.zero_le _
    | cons t q => exact hL t (List.mem_cons_self ..)
  have h1 := h.next hS1
  have hlt := h.par.cel.lt
  have HN := Lib.hid (pname_gen (r := r) 106 #[.pointer (some ⟨w.heap.size, 0, none⟩)] numB (fun W => Par W g lv L n r c3 c4 c5 c6 c7 c8 c9 c10 ∧ OnlyQ w.heap.size (w.alloc (.cells #[.int .i64 0] 3)) W ∧ ∃ v : Int, Cel W w.heap.size #[.int .i64 v] 3 ∧ (numB (r.headD []) = true → v = ((numV (r.headD []) : Nat) : Int))) (w.alloc (.cells #[.int .i64 0] 3)) h1.par (fun _ _ => by kernel_rfl) rfl
    (fun W hW => (number1_any (r.headD []) w.heap.size 0 w0 W hlr hE (h1.sin.trans hW) (hC1.next hW) h.sin.size).mono fun e w' ⟨k1, v, k2, k3, k4⟩ =>
      have hk : OnlyQ w.heap.size (w.alloc (.cells #[.int .i64 0] 3)) w' := (Keep.of_since hW).trans k3 (fun _ h => .inl h)
      ⟨k1, h1.par.keep hk (fun e => by omega) (fun b hb e => by have := (h.par.row.lt b hb).2; omega), hk, v, k2, k4⟩)
    (fun W hW => hW.1))
  have HK : Hid (∀ W, OnlyQ w.heap.size (w.alloc (.cells #[.int .i64 0] 3)) W → OnlyG g w W) := fun W hk => (Keep.of_since hS1).trans hk (fun x hx => .inr (by rw [hx]; exact Nat.le_refl _))
  obtain ⟨hb, hbe⟩ : ∃ b, Hid (b = w.heap.size) := ⟨_, rfl⟩
  rw [← hbe.out] at HN HK hC1
  have hne : Hid (¬ hb = g) := by show ¬ _; rw [hbe.out]; omega
  have HH := Lib.hid h
  cases hn : nameT numB r with
  | error x =>
    obtain ⟨k, er⟩ := x
    rw [hn] at HN
    have hr : Hid (numT r = .error (k, er)) := by show _ = _; rw [numT, hn]
    rw [hr.out]
    have HN2 : Hid (Calls Tryz.prog 83 #[.pointer (some ⟨g, 0, none⟩), .func (.func 106) #[] #[.pointer (some ⟨hb, 0, none⟩)]] (w.alloc (.cells #[.int .i64 0] 3)) fun e w' => e = .panicked [FlawE (placeK L n k) er] ∧ OnlyG g w w') := HN.out.mono fun e w' ⟨k1, W, ⟨_, k2, _⟩, k3⟩ => ⟨k1, (HK.out _ k2).trans (Keep.of_since (Z := fun _ => False) k3) (fun _ h => h.elim)⟩
    rw [hbe.out] at HN2
    clear HN HK hr hn h h1 hS1 hC1 hlr hlt HH hL hne hbe hE
    go_enter Tryz.func86, Tryz.ntmps86
    go_wp2_with fail
    refine HN2.out.mono ?_
    rintro e w2 ⟨rfl, hk⟩
    go_wp2_with fail
    exact ⟨rfl, rfl, hk⟩
  | ok x =>
    obtain ⟨t, r1⟩ := x
    obtain ⟨hr1, hr2⟩ := nameT_ok hn
    rw [hn] at HN
    have hr : Hid (numT r = .ok (numV t, r1)) := by show _ = _; rw [numT, hn]
    rw [hr.out]
    obtain ⟨V, hV⟩ : ∃ v : Nat, Hid (v = numV t) := ⟨_, rfl⟩
    have HN2 : Hid (Calls Tryz.prog 83 #[.pointer (some ⟨g, 0, none⟩), .func (.func 106) #[] #[.pointer (some ⟨hb, 0, none⟩)]] (w.alloc (.cells #[.int .i64 0] 3)) fun e w' => e = .returned (.string ⟨t.toArray⟩) ∧ Prs w0 w' g lv L n r1 c3 c4 c5 c6 c7 c8 c9 c10 ∧ OnlyG g w w' ∧ w'.cell? ⟨hb, 0, none⟩ = some (.int .i64 (V : Int))) := by
      refine HN.out.mono fun e w' ⟨k1, k2, W, ⟨_, k4, v, k5, k6⟩, k7⟩ => ?_
      have hk : OnlyG g w w' := (HK.out _ k4).trans k7 (fun _ h => .inl h)
      rw [hr1] at k6
      have := k6 hr2
      subst this
      refine ⟨k1, HH.out.only hk k2, hk, ?_⟩
      rw [hV.out]
      exact (k7.cel k5 hne.out).cell 0
    rw [← hV.out]
    rw [hbe.out] at HN2
    clear HN HK hr hn h h1 hS1 hC1 hlr hlt HH hL hne hr1 hr2 hV hbe hE
    go_enter Tryz.func86, Tryz.ntmps86
    go_wp2_with fail
    refine HN2.out.mono ?_
    rintro e w2 ⟨rfl, hp, hk, hc⟩
    go_wp2_with fail
    go_ret
    exact ⟨rfl, hp, hk⟩
theorem pterm_any (s : Txt) (W : World) (hs : s.length ≤ maxLen) (hE : Env W) :
    Calls Tryz.prog 111 #[.string ⟨s.toArray⟩] W fun e w' => e = .returned (.bool (termT s)) ∧ Since W w' := by
  have HC := Lib.hid (constant_any s W hs hE)
  have HV := Lib.hid (fun W => variable_any s W hs)
  obtain ⟨b1, h1⟩ : ∃ b, Hid (b = constantB s) := ⟨_, rfl⟩
  obtain ⟨b2, h2⟩ : ∃ b, Hid (b = variableB s) := ⟨_, rfl⟩
  have hT : termT s = (b1 || b2) := by rw [termT, h1.out, h2.out]
  rw [hT]
  rw [← h1.out] at HC
  rw [← h2.out] at HV
  clear hT h1 h2 hE hs
  cases b1 with
  | true =>
    go_enter Tryz.func111, Tryz.ntmps111
    go_wp2_with fail
    refine HC.out.mono ?_
    rintro e w2 ⟨rfl, hb⟩
    go_wp2_with fail
    go_ret
    exact ⟨rfl, hb⟩
  | false =>
    go_enter Tryz.func111, Tryz.ntmps111
    go_wp2_with fail
    refine HC.out.mono ?_
    rintro e w2 ⟨rfl, hb⟩
    go_wp2_with fail
    refine (HV.out _).mono ?_
    rintro e w3 ⟨rfl, rfl⟩
    go_wp2_with fail
    go_ret
    exact ⟨rfl, hb⟩
end
end Go.Proofs.YtnfjjckbgnieeaaGreatDoor

namespace Go.Proofs.YtnfjjckbgnieeaaGreatDoor
open Go.RowKit

section
variable {w0 w w' : World} {g : Nat} {lv : Value} {L : List Tk} {n : Nat} {r r' : Toks} {c3 c4 c5 c6 c7 c8 c9 c10 : Value}
theorem Prs.head (h : Prs w0 w g lv L n r c3 c4 c5 c6 c7 c8 c9 c10) : (r.headD []).length ≤ maxLen := by
  cases r with
  | nil => exact Nat.zero_le _
  | cons t q => have h1 := h.fits t (List.mem_cons_self ..); show t.length ≤ _; unfold maxLen; omega
theorem pprinc_here (h : Prs w0 w g lv L n r c3 c4 c5 c6 c7 c8 c9 c10) :
    Calls Tryz.prog 83 #[.pointer (some ⟨g, 0, none⟩), .func (.func 84) #[] #[]] w fun e w' => match nameT principalB r with
      | .error (k, er) => e = .panicked [FlawE (placeK L n k) er] ∧ OnlyG g w w'
      | .ok (t, r1) => e = .returned (.string ⟨t.toArray⟩) ∧ Prs w0 w' g lv L n r1 c3 c4 c5 c6 c7 c8 c9 c10 ∧ OnlyG g w w' := by
  refine (pname_rule 84 principalB w h.par (fun _ _ => by kernel_rfl) (by decide) (fun W hW => principal_any (r.headD []) W h.head (h.env.a.next (h.sin.trans hW)))).mono ?_
  intro e w' hx
  cases hn : nameT principalB r with
  | error x => rw [hn] at hx; exact hx
  | ok x => rw [hn] at hx; exact ⟨hx.1, h.only hx.2.2 hx.2.1, hx.2.2⟩
theorem ppred_here (h : Prs w0 w g lv L n r c3 c4 c5 c6 c7 c8 c9 c10) :
    Calls Tryz.prog 83 #[.pointer (some ⟨g, 0, none⟩), .func (.func 85) #[] #[]] w fun e w' => match nameT principalB r with
      | .error (k, er) => e = .panicked [FlawE (placeK L n k) er] ∧ OnlyG g w w'
      | .ok (t, r1) => e = .returned (.string ⟨t.toArray⟩) ∧ Prs w0 w' g lv L n r1 c3 c4 c5 c6 c7 c8 c9 c10 ∧ OnlyG g w w' := by
  refine (pname_rule 85 principalB w h.par (fun _ _ => by kernel_rfl) (by decide) (fun W hW => predicate_any (r.headD []) W h.head (h.env.a.next (h.sin.trans hW)))).mono ?_
  intro e w' hx
  cases hn : nameT principalB r with
  | error x => rw [hn] at hx; exact hx
  | ok x => rw [hn] at hx; exact ⟨hx.1, h.only hx.2.2 hx.2.1, hx.2.2⟩
theorem pterm_here (h : Prs w0 w g lv L n r c3 c4 c5 c6 c7 c8 c9 c10) :
    Calls Tryz.prog 83 #[.pointer (some ⟨g, 0, none⟩), .func (.func 111) #[] #[]] w fun e w' => match nameT termT r with
      | .error (k, er) => e = .panicked [FlawE (placeK L n k) er] ∧ OnlyG g w w'
      | .ok (t, r1) => e = .returned (.string ⟨t.toArray⟩) ∧ Prs w0 w' g lv L n r1 c3 c4 c5 c6 c7 c8 c9 c10 ∧ OnlyG g w w' := by
  refine (pname_rule 111 termT w h.par (fun _ _ => by kernel_rfl) (by decide) (fun W hW => pterm_any (r.headD []) W h.head (h.env.a.next (h.sin.trans hW)))).mono ?_
  intro e w' hx
  cases hn : nameT termT r with
  | error x => rw [hn] at hx; exact hx
  | ok x => rw [hn] at hx; exact ⟨hx.1, h.only hx.2.2 hx.2.1, hx.2.2⟩
theorem pmust_here (s : Txt) (h : Prs w0 w g lv L n r c3 c4 c5 c6 c7 c8 c9 c10) (hs : s ≠ []) :
    Calls Tryz.prog 66 #[.pointer (some ⟨g, 0, none⟩), .string ⟨s.toArray⟩] w fun e w' => match mustT s r with
      | .error (k, er) => e = .panicked [FlawE (placeK L n k) er] ∧ OnlyG g w w'
      | .ok r1 => e = .returned (.tuple #[]) ∧ Prs w0 w' g lv L n r1 c3 c4 c5 c6 c7 c8 c9 c10 ∧ OnlyG g w w' := by
  refine (pmust_any s w h.par hs).mono ?_
  intro e w' hx
  cases hn : mustT s r with
  | error x => rw [hn] at hx; exact hx
  | ok x => rw [hn] at hx; exact ⟨hx.1, h.only hx.2.2 hx.2.1, hx.2.2⟩
theorem pskip_here (s : Txt) (h : Prs w0 w g lv L n r c3 c4 c5 c6 c7 c8 c9 c10) (hs : s ≠ []) :
    Calls Tryz.prog 92 #[.pointer (some ⟨g, 0, none⟩), .string ⟨s.toArray⟩] w fun e w' => e = .returned (.bool (isT s r)) ∧ Prs w0 w' g lv L n (if isT s r = true then r.drop 1 else r) c3 c4 c5 c6 c7 c8 c9 c10 ∧ OnlyG g w w' := by
  refine (pskip_any s w h.par hs).mono ?_
  intro e w' hx
  exact ⟨hx.1, h.only hx.2.2 hx.2.1, hx.2.2⟩
end
abbrev OnlyZ (g D : Nat) : World → World → Prop := Keep (fun b => b = g ∨ D ≤ b)
theorem OnlyG.z {g D : Nat} {W W' : World} (h : OnlyG g W W') : OnlyZ g D W W' := h.mono fun _ hx => .inl hx
theorem OnlyZ.trans' {g D : Nat} {a b c : World} (h : OnlyZ g D a b) (k : OnlyZ g D b c) : OnlyZ g D a c := h.trans k fun _ hx => .inl hx
/-- What is new aside, only the parser has changed. -/
theorem OnlyZ.g {g D : Nat} {a b : World} (h : OnlyZ g D a b) (hD : a.heap.size ≤ D) : OnlyG g a b := ⟨h.os, h.tape, h.output, h.size, fun k hk hn => h.block k hk (fun hx => hx.elim hn (fun hd => by omega))⟩
def EachOut {σ : Type} (w0 w : World) (g : Nat) (lv : Value) (L : List Tk) (n : Nat) (c3 c4 c5 c6 c7 c8 c9 c10 : Value) (D : Nat) (I : σ → Toks → World → Prop) (R : Except PErr (σ × Toks)) (e : Ending) (w' : World) : Prop := match R with
  | .error (k, er) => e = .panicked [FlawE (placeK L n k) er] ∧ OnlyZ g D w w'
  | .ok (s1, r1) => e = .returned (.tuple #[]) ∧ Prs w0 w' g lv L n r1 c3 c4 c5 c6 c7 c8 c9 c10 ∧ I s1 r1 w' ∧ OnlyZ g D w w'
set_option maxHeartbeats 2000000 in
theorem peach_any {w0 : World} {g : Nat} {lv : Value} {L : List Tk} {n : Nat} {c3 c4 c5 c6 c7 c8 c9 c10 : Value} {σ : Type} (f : FuncId) (cap : Array Value) (one : σ → Toks → Except PErr (σ × Toks)) (hone : Eats one) (D : Nat) (I : σ → Toks → World → Prop)
    (hI : ∀ s r W W', I s r W → OnlyG g W W' → I s r W') (hdr : ∀ s r W, I s r W → I s (r.drop 1) W) (hf : ∀ args W, (callFunc f args).run Tryz.prog W = .ok (.enter f args) W)
    (hstep : ∀ s r W, Prs w0 W g lv L n r c3 c4 c5 c6 c7 c8 c9 c10 → I s r W → D ≤ W.heap.size → Calls Tryz.prog f cap W (EachOut w0 W g lv L n c3 c4 c5 c6 c7 c8 c9 c10 D I (one s r)))
    (s : σ) (r : Toks) (w : World) (h : Prs w0 w g lv L n r c3 c4 c5 c6 c7 c8 c9 c10) (hs : I s r w) (hD : D ≤ w.heap.size) :
    Calls Tryz.prog 87 #[.pointer (some ⟨g, 0, none⟩), .func (.func f) #[] cap] w (EachOut w0 w g lv L n c3 c4 c5 c6 c7 c8 c9 c10 D I (eachT one s r)) := by
  obtain ⟨R, hR⟩ : ∃ R, Hid (R = eachT one s r) := ⟨_, rfl⟩
  rw [← hR.out]
  obtain ⟨K, hK⟩ : ∃ K : Ending → World → Prop, Hid (K = EachOut w0 w g lv L n c3 c4 c5 c6 c7 c8 c9 c10 D I R) := ⟨_, rfl⟩
  have hK2 : EachOut w0 w g lv L n c3 c4 c5 c6 c7 c8 c9 c10 D I R = K := hK.out.symm
  rw [hK2]
  have hbad : Hid (∀ k er w', R = .error (k, er) → OnlyZ g D w w' → K (.panicked [FlawE (placeK L n k) er]) w') := by
    intro k er w' e hk
    subst e
    rw [hK.out]
    exact ⟨rfl, hk⟩
  have hgood : Hid (∀ s1 r1 w', R = .ok (s1, r1) → Prs w0 w' g lv L n r1 c3 c4 c5 c6 c7 c8 c9 c10 → I s1 r1 w' → OnlyZ g D w w' → K (.returned (.tuple #[])) w') := by
    intro s1 r1 w' e h1 h2 h3
    subst e
    rw [hK.out]
    exact ⟨rfl, h1, h2, h3⟩
  have HST := Lib.hid hstep
  have HSK := Lib.hid (fun r W (h : Prs w0 W g lv L n r c3 c4 c5 c6 c7 c8 c9 c10) => pskip_here [44] h (by decide))
  have HI := Lib.hid hI
  have HDR := Lib.hid hdr
  have HEQ := Lib.hid (fun s r => eachT_step hone s r)
  have HLE := Lib.hid (fun s r s1 r1 (e : one s r = .ok (s1, r1)) => hone.len e)
  have hRE := hR.out
  rw [eachT_step hone] at hRE
  have HC0 := Lib.hid (hstep s r w h hs hD)
  have HD0 := Lib.hid hD
  clear hstep hI hdr hone hK hK2 hR h hs hD
  cases h1 : one s r with
  | error x =>
    obtain ⟨k, er⟩ := x
    rw [h1] at hRE HC0
    have HC1 : Hid (Calls Tryz.prog f cap w fun e w' => e = .panicked [FlawE (placeK L n k) er] ∧ OnlyZ g D w w') := HC0.out
    have HR1 : Hid (R = .error (k, er)) := hRE
    clear hRE HC0 h1
    go_enter Tryz.func87, Tryz.ntmps87
    go_wp2_with fail
    refine HC1.out.mono ?_
    rintro e w2 ⟨rfl, hk⟩
    go_wp2_with fail
    exact ⟨rfl, hbad.out _ _ _ HR1.out hk⟩
  | ok x =>
    obtain ⟨s1, r1⟩ := x
    rw [h1] at hRE HC0
    have HC1 : Hid (Calls Tryz.prog f cap w fun e w' => e = .returned (.tuple #[]) ∧ Prs w0 w' g lv L n r1 c3 c4 c5 c6 c7 c8 c9 c10 ∧ I s1 r1 w' ∧ OnlyZ g D w w') := HC0.out
    have HR1 : Hid (R = if isT [44] r1 = true then eachT one s1 (r1.drop 1) else .ok (s1, r1)) := hRE
    clear hRE HC0 h1
    go_enter Tryz.func87, Tryz.ntmps87
    go_wp2_with fail
    refine HC1.out.mono ?_
    rintro e w2 ⟨rfl, hp, hi, hk⟩
    clear HC1
    go_wp2_with fail
    go_loopg [] r1.length (fun m wr => ∃ (s1 : σ) (r1 : Toks), m = r1.length ∧ Hid (R = if isT [44] r1 = true then eachT one s1 (r1.drop 1) else .ok (s1, r1)) ∧ Prs w0 wr g lv L n r1 c3 c4 c5 c6 c7 c8 c9 c10 ∧ I s1 r1 wr ∧ OnlyZ g D w wr)
    case atStart => exact ⟨s1, r1, rfl, HR1, hp, hi, hk⟩
    case round =>
    clear hp hi hk HR1
    obtain ⟨s2, r2, rfl, HR2, hp, hi, hk⟩ := hrel
    have HS2 := Lib.hid (HSK.out r2 _ hp)
    obtain ⟨b, hb⟩ : ∃ b, Hid (b = isT [44] r2) := ⟨_, rfl⟩
    rw [← hb.out] at HS2 HR2
    cases b with
    | false =>
      have HS3 : Hid (Calls Tryz.prog 92 #[.pointer (some ⟨g, 0, none⟩), .string ⟨#[44]⟩] wr fun e w' => e = .returned (.bool false) ∧ Prs w0 w' g lv L n r2 c3 c4 c5 c6 c7 c8 c9 c10 ∧ OnlyG g wr w') := HS2.out
      have HR3 : Hid (R = .ok (s2, r2)) := HR2.out
      clear HS2 HR2 hb
      go_wp2_with fail
      refine HS3.out.mono ?_
      rintro e w3 ⟨rfl, hp3, hk3⟩
      go_wp2_with fail
      go_end0
      exact hgood.out _ _ _ HR3.out hp3 (HI.out _ _ _ _ hi hk3) (hk.trans' hk3.z)
    | true =>
      have HS3 : Hid (Calls Tryz.prog 92 #[.pointer (some ⟨g, 0, none⟩), .string ⟨#[44]⟩] wr fun e w' => e = .returned (.bool true) ∧ Prs w0 w' g lv L n (r2.drop 1) c3 c4 c5 c6 c7 c8 c9 c10 ∧ OnlyG g wr w') := HS2.out
      have HR3 : Hid (R = eachT one s2 (r2.drop 1)) := HR2.out
      have hle : (r2.drop 1).length ≤ r2.length := by rw [List.length_drop]; omega
      obtain ⟨r3, hr3⟩ : ∃ x, Hid (x = r2.drop 1) := ⟨_, rfl⟩
      rw [← hr3.out] at HS3 HR3 hle
      have HLE2 := Lib.hid hle
      have HR3e : Hid (r3 = r2.drop 1) := hr3.out
      clear HS2 HR2 hb hr3 hle
      go_wp2_with fail
      refine HS3.out.mono ?_
      rintro e w3 ⟨rfl, hp3, hk3⟩
      have hi3 : I s2 r3 w3 := HI.out _ _ _ _ (by rw [HR3e.out]; exact HDR.out _ _ _ hi) hk3
      have hD3 : D ≤ w3.heap.size := Nat.le_trans HD0.out (Nat.le_trans hk.size hk3.size)
      have HC3 := Lib.hid (HST.out s2 r3 w3 hp3 hi3 hD3)
      have hR3 := HR3.out
      rw [HEQ.out] at hR3
      have hk4 := hk.trans' (hk3.z (D := D))
      clear HS3 HR3 hp hi hk hk3 hp3 hi3 hD3
      cases h1 : one s2 r3 with
      | error x =>
        obtain ⟨k, er⟩ := x
        rw [h1] at hR3 HC3
        have HC4 : Hid (Calls Tryz.prog f cap w3 fun e w' => e = .panicked [FlawE (placeK L n k) er] ∧ OnlyZ g D w3 w') := HC3.out
        have HR4 : Hid (R = .error (k, er)) := hR3
        clear hR3 HC3 h1
        go_wp2_with fail
        refine HC4.out.mono ?_
        rintro e w5 ⟨rfl, hk5⟩
        go_wp2_with fail
        exact ⟨rfl, hbad.out _ _ _ HR4.out (hk4.trans' hk5)⟩
      | ok x =>
        obtain ⟨s4, r4⟩ := x
        rw [h1] at hR3 HC3
        have HC4 : Hid (Calls Tryz.prog f cap w3 fun e w' => e = .returned (.tuple #[]) ∧ Prs w0 w' g lv L n r4 c3 c4 c5 c6 c7 c8 c9 c10 ∧ I s4 r4 w' ∧ OnlyZ g D w3 w') := HC3.out
        have HR4 : Hid (R = if isT [44] r4 = true then eachT one s4 (r4.drop 1) else .ok (s4, r4)) := hR3
        have hlt4 := Lib.hid (HLE.out _ _ _ _ h1)
        clear hR3 HC3 h1
        go_wp2_with fail
        refine HC4.out.mono ?_
        rintro e w5 ⟨rfl, hp5, hi5, hk5⟩
        clear HC4
        go_wp2_with fail
        go_roundg r4.length
        case measure => have := hlt4.out; have := HLE2.out; omega
        case rel => exact ⟨s4, r4, rfl, HR4, hp5, hi5, hk4.trans' hk5⟩
end Go.Proofs.YtnfjjckbgnieeaaGreatDoor
