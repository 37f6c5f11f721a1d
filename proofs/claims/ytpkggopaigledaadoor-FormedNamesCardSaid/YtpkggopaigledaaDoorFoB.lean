/- formed: a policy in memory; Principal, Arity. -/
import Derived.Test.YtpkggopaigledaaDoorFoA
import Derived.Test.YtpkggopaigledaaDoorTermN
import Derived.Test.YtpkggopaigledaaDoorCel
namespace Go.Proofs.YtpkggopaigledaaDoor
open Go.RowKit

abbrev Txt := List UInt8
structure Pol where
  pr : List Txt
  pd : List (Txt × Int)
  cl : List (Txt × List Txt)
  qu : Int
  bu : Int
  ru : List (Atm × List Atm)
  gr : List (Txt × Atm × List Atm)
/-- A slice of elements of K cells, of whose cells R speaks. -/
def KRow {α : Type} (K : Nat) (R : World → Nat → Nat → α → Prop) (W : World) (v : Value) (L : List α) : Prop :=
  ∃ a c, v = .slice a L.length c ∧ L.length ≤ c ∧ (0 < L.length → ∃ b o, a = some ⟨b, o, none⟩ ∧ ∀ k, (h : k < L.length) → R W b (o + k * K) L[k])
theorem KRow.next {α : Type} {K : Nat} {R : World → Nat → Nat → α → Prop} (hR : ∀ W W' b o x, R W b o x → Since W W' → R W' b o x) {W W' : World} {v : Value} {L : List α} (h : KRow K R W v L) (hs : Since W W') : KRow K R W' v L := by
  obtain ⟨a, c, h1, h2, h3⟩ := h
  refine ⟨a, c, h1, h2, fun h0 => ?_⟩
  obtain ⟨b, o, h4, h5⟩ := h3 h0
  exact ⟨b, o, h4, fun k hk => hR _ _ _ _ _ (h5 k hk) hs⟩
theorem KRow.form {α : Type} {K : Nat} {R : World → Nat → Nat → α → Prop} {W : World} {a : Option Addr} {n c : Nat} {L : List α} (h : KRow K R W (.slice a n c) L) : n = L.length := by
  obtain ⟨a', c', h1, -, -⟩ := h
  cases h1; rfl
theorem KRow.slice {α : Type} {K : Nat} {R : World → Nat → Nat → α → Prop} {W : World} {v : Value} {L : List α} (h : KRow K R W v L) : ∃ a c, v = .slice a L.length c := by
  obtain ⟨a, c, h1, -, -⟩ := h
  exact ⟨a, c, h1⟩
theorem KRow.get {α : Type} {K : Nat} {R : World → Nat → Nat → α → Prop} {W : World} {a : Option Addr} {n c : Nat} {L : List α} (h : KRow K R W (.slice a n c) L) (h0 : 0 < L.length) : ∃ b o, a = some ⟨b, o, none⟩ ∧ n ≤ c ∧ ∀ k, (h : k < L.length) → R W b (o + k * K) L[k] := by
  obtain ⟨a', c', h1, h2, h3⟩ := h
  cases h1
  obtain ⟨b, o, h4, h5⟩ := h3 h0
  exact ⟨b, o, h4, h2, h5⟩
theorem KRow.nil {α : Type} {K : Nat} {R : World → Nat → Nat → α → Prop} {W : World} (a : Option Addr) (c : Nat) : KRow K R W (.slice a 0 c) [] := ⟨a, c, rfl, Nat.zero_le _, fun h => absurd h (Nat.lt_irrefl 0)⟩
def TxtAt (W : World) (b o : Nat) (x : Txt) : Prop := W.cell? ⟨b, o, none⟩ = some (strV x)
def PrdAt (W : World) (b o : Nat) (x : Txt × Int) : Prop := W.cell? ⟨b, o, none⟩ = some (strV x.1) ∧ W.cell? ⟨b, o + 1, none⟩ = some (.int .i64 x.2)
abbrev TRow := KRow 1 TxtAt
abbrev PRow := KRow 2 PrdAt
def ClrAt (W : World) (b o : Nat) (x : Txt × List Txt) : Prop := W.cell? ⟨b, o, none⟩ = some (strV x.1) ∧ ∃ u, W.cell? ⟨b, o + 1, none⟩ = some u ∧ TRow W u x.2
abbrev CRow := KRow 2 ClrAt
/-- An atom's cells in a row. -/
def AtAt (W : World) (b o : Nat) (x : Atm) : Prop := ∀ j u, (atmC x)[j]? = some u → W.cell? ⟨b, o + j, none⟩ = some u
abbrev ARow := KRow 11 AtAt
def RulAt (W : World) (b o : Nat) (x : Atm × List Atm) : Prop := AtAt W b o x.1 ∧ ∃ u, W.cell? ⟨b, o + 11, none⟩ = some u ∧ ARow W u x.2
abbrev RRow := KRow 12 RulAt
def GrnAt (W : World) (b o : Nat) (x : Txt × Atm × List Atm) : Prop := W.cell? ⟨b, o, none⟩ = some (strV x.1) ∧ AtAt W b (o + 1) x.2.1 ∧ ∃ u, W.cell? ⟨b, o + 12, none⟩ = some u ∧ ARow W u x.2.2
abbrev GRow := KRow 13 GrnAt
theorem TxtAt.next {W W' : World} {b o : Nat} {x : Txt} (h : TxtAt W b o x) (hs : Since W W') : TxtAt W' b o x := hs.cell h
theorem PrdAt.next {W W' : World} {b o : Nat} {x : Txt × Int} (h : PrdAt W b o x) (hs : Since W W') : PrdAt W' b o x := ⟨hs.cell h.1, hs.cell h.2⟩
theorem tnext {W W' : World} {v : Value} {L : List Txt} (h : TRow W v L) (hs : Since W W') : TRow W' v L := KRow.next (R := TxtAt) (fun _ _ _ _ _ h s => h.next s) h hs
theorem pnext {W W' : World} {v : Value} {L : List (Txt × Int)} (h : PRow W v L) (hs : Since W W') : PRow W' v L := KRow.next (R := PrdAt) (fun _ _ _ _ _ h s => h.next s) h hs
theorem ClrAt.next {W W' : World} {b o : Nat} {x : Txt × List Txt} (h : ClrAt W b o x) (hs : Since W W') : ClrAt W' b o x := by
  obtain ⟨h1, u, h2, h3⟩ := h
  exact ⟨hs.cell h1, u, hs.cell h2, tnext h3 hs⟩
theorem cnext {W W' : World} {v : Value} {L : List (Txt × List Txt)} (h : CRow W v L) (hs : Since W W') : CRow W' v L := KRow.next (R := ClrAt) (fun _ _ _ _ _ h s => h.next s) h hs
theorem AtAt.next {W W' : World} {b o : Nat} {x : Atm} (h : AtAt W b o x) (hs : Since W W') : AtAt W' b o x := fun j u hu => hs.cell (h j u hu)
theorem anext {W W' : World} {v : Value} {L : List Atm} (h : ARow W v L) (hs : Since W W') : ARow W' v L := KRow.next (R := AtAt) (fun _ _ _ _ _ h s => h.next s) h hs
theorem RulAt.next {W W' : World} {b o : Nat} {x : Atm × List Atm} (h : RulAt W b o x) (hs : Since W W') : RulAt W' b o x := by
  obtain ⟨h1, u, h2, h3⟩ := h
  exact ⟨h1.next hs, u, hs.cell h2, anext h3 hs⟩
theorem rnext {W W' : World} {v : Value} {L : List (Atm × List Atm)} (h : RRow W v L) (hs : Since W W') : RRow W' v L := KRow.next (R := RulAt) (fun _ _ _ _ _ h s => h.next s) h hs
theorem GrnAt.next {W W' : World} {b o : Nat} {x : Txt × Atm × List Atm} (h : GrnAt W b o x) (hs : Since W W') : GrnAt W' b o x := by
  obtain ⟨h0, h1, u, h2, h3⟩ := h
  exact ⟨hs.cell h0, h1.next hs, u, hs.cell h2, anext h3 hs⟩
theorem gnext {W W' : World} {v : Value} {L : List (Txt × Atm × List Atm)} (h : GRow W v L) (hs : Since W W') : GRow W' v L := KRow.next (R := GrnAt) (fun _ _ _ _ _ h s => h.next s) h hs
def PolAt (W : World) (ap ad ac ar ag : Option Addr) (np cp nd cd nc cc nr cr ng cg : Nat) (qu bu : Int) (P : Pol) : Prop :=
  TRow W (.slice ap np cp) P.pr ∧ PRow W (.slice ad nd cd) P.pd ∧ CRow W (.slice ac nc cc) P.cl ∧ qu = P.qu ∧ bu = P.bu ∧ RRow W (.slice ar nr cr) P.ru ∧ GRow W (.slice ag ng cg) P.gr
theorem PolAt.next {W W' : World} {ap ad ac ar ag : Option Addr} {np cp nd cd nc cc nr cr ng cg : Nat} {qu bu : Int} {P : Pol} (h : PolAt W ap ad ac ar ag np cp nd cd nc cc nr cr ng cg qu bu P) (hs : Since W W') : PolAt W' ap ad ac ar ag np cp nd cd nc cc nr cr ng cg qu bu P :=
  ⟨tnext h.1 hs, pnext h.2.1 hs, cnext h.2.2.1 hs, h.2.2.2.1, h.2.2.2.2.1, rnext h.2.2.2.2.2.1 hs, gnext h.2.2.2.2.2.2 hs⟩
/-- The block of a policy by value. -/
def PBox (W : World) (g : Nat) (ap ad ac ar ag : Option Addr) (np cp nd cd nc cc nr cr ng cg : Nat) (qu bu : Int) : Prop := W.cell? ⟨g, 0, none⟩ = some (.slice ap np cp) ∧ W.cell? ⟨g, 1, none⟩ = some (.slice ad nd cd) ∧ W.cell? ⟨g, 2, none⟩ = some (.slice ac nc cc) ∧ W.cell? ⟨g, 3, none⟩ = some (.int .i64 qu) ∧ W.cell? ⟨g, 4, none⟩ = some (.int .i64 bu) ∧ W.cell? ⟨g, 5, none⟩ = some (.slice ar nr cr) ∧ W.cell? ⟨g, 6, none⟩ = some (.slice ag ng cg)
theorem PBox.next {W W' : World} {g : Nat} {ap ad ac ar ag : Option Addr} {np cp nd cd nc cc nr cr ng cg : Nat} {qu bu : Int} (h : PBox W g ap ad ac ar ag np cp nd cd nc cc nr cr ng cg qu bu) (hs : Since W W') : PBox W' g ap ad ac ar ag np cp nd cd nc cc nr cr ng cg qu bu :=
  ⟨hs.cell h.1, hs.cell h.2.1, hs.cell h.2.2.1, hs.cell h.2.2.2.1, hs.cell h.2.2.2.2.1, hs.cell h.2.2.2.2.2.1, hs.cell h.2.2.2.2.2.2⟩
theorem pbox_new (w : World) (ap ad ac ar ag : Option Addr) (np cp nd cd nc cc nr cr ng cg : Nat) (qu bu : Int) (t : TypeId) : PBox (w.alloc (.cells #[.slice ap np cp, .slice ad nd cd, .slice ac nc cc, .int .i64 qu, .int .i64 bu, .slice ar nr cr, .slice ag ng cg] t)) w.heap.size ap ad ac ar ag np cp nd cd nc cc nr cr ng cg qu bu := by
  refine ⟨?_, ?_, ?_, ?_, ?_, ?_, ?_⟩ <;> (rw [World.cell?_alloc_new]; rfl)

/-- slices.Contains at texts. -/
theorem tcontains_any (v : Value) (L : List Txt) (x : Txt) (w : World) (h : TRow w v L) (hm : L.length ≤ 9223372036854775807) :
    Calls Tryd.prog 47 #[v, .string ⟨x.toArray⟩] w fun e w' => e = .returned (.bool (L.contains x)) ∧ w = w' := by
  by_cases h0 : 0 < L.length
  · obtain ⟨a, c, rfl⟩ := h.slice
    obtain ⟨b, o, rfl, hc, hcell⟩ := h.get h0
    refine contains_any _ L x w (.inr ⟨b, o, c, rfl, hc, fun j hj => ?_⟩) hm
    have hj' : j < L.length := by simpa using hj
    have := hcell j hj'
    unfold TxtAt at this
    rw [Nat.mul_one] at this
    rw [this, List.getElem_map]
  · have hn : L = [] := List.eq_nil_of_length_eq_zero (by omega)
    subst hn
    obtain ⟨a, c, rfl⟩ := h.slice
    refine (Tryd.slices_Contains_string_empty a c ⟨x.toArray⟩ w).mono fun e w' he => ⟨?_, he.2.symm⟩
    rw [he.1]; rfl
set_option maxHeartbeats 400000 in
theorem fprin_any (ap ad ac ar ag : Option Addr) (np cp nd cd nc cc nr cr ng cg : Nat) (qu bu : Int) (L : List Txt) (x : Txt) (w : World) (h : TRow w (.slice ap np cp) L) (hm : L.length ≤ 1000000) :
    Calls Tryd.prog 18 #[.agg #[.slice ap np cp, .slice ad nd cd, .slice ac nc cc, .int .i64 qu, .int .i64 bu, .slice ar nr cr, .slice ag ng cg], .string ⟨x.toArray⟩] w fun e w' => e = .returned (.bool (L.contains x)) ∧ Since w w' := by
  have h1 := Lib.hid (tcontains_any _ L x _ (tnext h ((Since.refl w).alloc (.cells #[.slice ap np cp, .slice ad nd cd, .slice ac nc cc, .int .i64 qu, .int .i64 bu, .slice ar nr cr, .slice ag ng cg] 28))) (by omega))
  clear h
  go_enter Tryd.func18, Tryd.ntmps18
  go_wp2_with fail
  refine h1.out.mono ?_
  rintro e w1 ⟨rfl, rfl⟩
  go_wp2_with fail
  go_ret
  exact ⟨ret_bool (by simp), (Since.refl _).alloc _⟩
def arityF : List (Txt × Int) → Txt → Option Int
  | [], _ => none
  | p :: r, x => if p.1 = x then some p.2 else arityF r x
set_option maxHeartbeats 2000000 in
set_option maxRecDepth 100000 in
theorem farity_any (ap ad ac ar ag : Option Addr) (np cp nd cd nc cc nr cr ng cg : Nat) (qu bu : Int) (L : List (Txt × Int)) (x : Txt) (w : World) (h : PRow w (.slice ad nd cd) L) (hm : L.length ≤ 1000000) :
    Calls Tryd.prog 14 #[.agg #[.slice ap np cp, .slice ad nd cd, .slice ac nc cc, .int .i64 qu, .int .i64 bu, .slice ar nr cr, .slice ag ng cg], .string ⟨x.toArray⟩] w fun e w' => e = .returned (.tuple #[.int .i64 ((arityF L x).getD 0), .bool (arityF L x).isSome]) ∧ Since w w' := by
  have hnm : nd ≤ 1000000 := by have := h.form; omega
  have hnd := Lib.hid h.form
  have hS : Since w (w.alloc (.cells #[.slice ap np cp, .slice ad nd cd, .slice ac nc cc, .int .i64 qu, .int .i64 bu, .slice ar nr cr, .slice ag ng cg] 28)) := (Since.refl w).alloc _
  have h1 := Lib.hid (pnext h hS)
  clear h
  go_enter Tryd.func14, Tryd.ntmps14
  go_wp2_with fail
  generalize w.alloc (.cells #[.slice ap np cp, .slice ad nd cd, .slice ac nc cc, .int .i64 qu, .int .i64 bu, .slice ar nr cr, .slice ag ng cg] 28) = W at *
  go_loopw [11] (fun m wr => ∃ k : Nat, k ≤ nd ∧ m = .int .i64 (k : Int) ∧ arityF L x = arityF (L.drop k) x ∧ Since W wr) (fun m _ => nd - (intOf m).toNat)
  case atStart => exact ⟨0, by omega, rfl, rfl, Since.refl _⟩
  case round =>
    obtain ⟨k, hk, rfl, hE, hSr⟩ := hrel
    by_cases hlt : k < nd
    · have hlt2 : (k : Int) < (nd : Int) := by omega
      have hlt0 : (0 : Int) ≤ (k : Int) := by omega
      obtain ⟨b, o, rfl, hc, hat⟩ := (pnext h1.out hSr).get (by have := hnd.out; omega)
      obtain ⟨d1, d2⟩ := hat k (by have := hnd.out; omega)
      rw [List.drop_eq_getElem_cons (by have := hnd.out; omega), arityF] at hE
      obtain ⟨⟨s, n⟩, hq⟩ : ∃ q, Hid (q = L[k]) := ⟨L[k]'(by have := hnd.out; omega), rfl⟩
      rw [← hq.out] at d1 d2 hE
      simp only [strV] at d1 d2
      clear hat
      have HE := Lib.hid hE
      clear hE
      by_cases he : s = x
      · have hb : (s == x) = true := by simpa using he
        go_wp2_with fail
        go_ret2
        have := HE.out
        simp only [he, if_true] at this
        rw [this]
        exact ⟨rfl, (hS.trans hSr).alloc _⟩
      · have hb : (s == x) = false := by simpa using he
        go_wp2_with fail
        go_roundw
        case rel => exact ⟨k + 1, by omega, by go_num, by rw [HE.out]; simp only [he, if_false], hSr.alloc _⟩
        case measure => simp [intOf]; omega
    · have hlt2 : ¬ (k : Int) < (nd : Int) := by omega
      have HE := Lib.hid hE
      clear hE
      go_wp2_with fail
      go_ret2
      have : arityF L x = none := by rw [HE.out, List.drop_eq_nil_of_le (by have := hnd.out; omega)]; rfl
      rw [this]
      exact ⟨rfl, hS.trans hSr⟩
end Go.Proofs.YtpkggopaigledaaDoor
