/- vouchsafekit.OwnPolicy. -/
import Derived.Test.YtpkggopaigledaaDoorFpE
import Derived.Test.YtpkggopaigledaaDoorFpA
import Derived.Test.YtpkggopaigledaaDoorFoV
import Derived.Deep.CutRange
namespace Go.Proofs.YtpkggopaigledaaDoor
open Go.RowKit

def clrC (x : Txt × List Txt) (u : Value) : List Value := [strV x.1, u]
def rulC (x : Atm × List Atm) (u : Value) : List Value := (atmC x.1).toList ++ [u]
def grnC (x : Txt × Atm × List Atm) (u : Value) : List Value := strV x.1 :: ((atmC x.2.1).toList ++ [u])
abbrev NestC (W : World) (B : Nat) := Nest W B 49 2 clrC 9 1 (fun x => x.2.length) (fun x => x.2.flatMap txtL)
abbrev NestR (W : World) (B : Nat) := Nest W B 42 12 rulC 39 11 (fun x => x.2.length) (fun x => x.2.flatMap atmL)
abbrev NestG (W : World) (B : Nat) := Nest W B 54 13 grnC 39 11 (fun x => x.2.2.length) (fun x => x.2.2.flatMap atmL)
theorem apart_lt {W : World} {B : Nat} {e : TypeId} {K n : Nat} {u v : Value} {xs : List Value} (h : W.ownsRow B e K u n xs) (hl : ∀ b, v.ownBlock = some b → b < B) : apartV u v := by
  unfold apartV
  cases hb : u.ownBlock with
  | none => exact .inl rfl
  | some b =>
    refine .inr fun hh => ?_
    have l1 := (h.lt b hb).1
    have l2 := hl b hh.symm
    omega
theorem Nest.base {α : Type} {W : World} {B B' : Nat} {e1 : TypeId} {K1 : Nat} {c : α → Value → List Value} {e2 : TypeId} {K2 : Nat} {cnt : α → Nat} {inn : α → List Value} {v : Value} {L : List (α × Value)} (h : Nest W B e1 K1 c e2 K2 cnt inn v L) (hb : B' ≤ B) : Nest W B' e1 K1 c e2 K2 cnt inn v L :=
  ⟨own_base h.row hb, fun p hp => own_base (h.ins p hp) hb, h.apart⟩
/-- A policy's rows, all the call's own. -/
structure OwnRows (W : World) (B : Nat) (v0 v1 v2 v5 v6 : Value) (pr : List Txt) (pd : List (Txt × Int)) (C : List ((Txt × List Txt) × Value)) (U : List ((Atm × List Atm) × Value)) (G : List ((Txt × Atm × List Atm) × Value)) : Prop where
  h0 : W.ownsRow B 9 1 v0 pr.length (pr.flatMap txtL)
  h1 : W.ownsRow B 47 2 v1 pd.length (pd.flatMap prdL)
  h2 : NestC W B v2 C
  h5 : NestR W B v5 U
  h6 : NestG W B v6 G
  h02 : ∀ p ∈ C, apartV p.2 v0
  h56 : ∀ q ∈ G, ∀ p ∈ U, apartV q.2 p.2
theorem OwnRows.next {W W' : World} {B : Nat} {v0 v1 v2 v5 v6 : Value} {pr : List Txt} {pd : List (Txt × Int)} {C : List ((Txt × List Txt) × Value)} {U : List ((Atm × List Atm) × Value)} {G : List ((Txt × Atm × List Atm) × Value)} (h : OwnRows W B v0 v1 v2 v5 v6 pr pd C U G) (hs : Since W W') : OwnRows W' B v0 v1 v2 v5 v6 pr pd C U G :=
  ⟨own_since h.h0 hs, own_since h.h1 hs, h.h2.next hs, h.h5.next hs, h.h6.next hs, h.h02, h.h56⟩
/-- A cell of another kind is stored to. -/
theorem OwnRows.cel {W W' : World} {B g : Nat} {cs : Array Value} {v0 v1 v2 v5 v6 : Value} {pr : List Txt} {pd : List (Txt × Int)} {C : List ((Txt × List Txt) × Value)} {U : List ((Atm × List Atm) × Value)} {G : List ((Txt × Atm × List Atm) × Value)} (h : OwnRows W B v0 v1 v2 v5 v6 pr pd C U G) (hc : Cel W g cs 28) (hg : W.grownBy W' (some g)) : OwnRows W' B v0 v1 v2 v5 v6 pr pd C U G :=
  ⟨h.h0.kept hg (own_cel_ne h.h0 hc (by decide)), h.h1.kept hg (own_cel_ne h.h1 hc (by decide)), h.h2.cel hc hg (by decide) (by decide), h.h5.cel hc hg (by decide) (by decide), h.h6.cel hc hg (by decide) (by decide), h.h02, h.h56⟩
theorem reads_new (W : World) (cs : Array Value) (e : TypeId) (K : Nat) (hK : cs.size = K) : Reads (W.alloc (.cells cs e)) (W.alloc (.cells cs e)).heap.size K (some ⟨W.heap.size, 0, none⟩) 1 cs.toList := by
  refine ⟨by simp [hK], fun _ => ⟨_, rfl, by simp, fun j u hu => ?_⟩⟩
  rw [add_form, Nat.zero_add, World.cell?_alloc_new]
  rw [← hu, Array.getElem?_toList]
/-- The policy under way: its box, its rows. -/
def OPol (w2 W : World) (g : Nat) (qu bu : Int) (pr : List Txt) (pd : List (Txt × Int)) (cl : List (Txt × List Txt)) (ru : List (Atm × List Atm)) (gr : List (Txt × Atm × List Atm)) : Prop :=
  ∃ a0 a1 a2 a5 a6 : Option Addr, ∃ c0 c1 c2 c5 c6 : Nat, ∃ C U G, C.map Prod.fst = cl ∧ U.map Prod.fst = ru ∧ G.map Prod.fst = gr ∧ w2.heap.size ≤ g ∧ Cel W g #[.slice a0 pr.length c0, .slice a1 pd.length c1, .slice a2 C.length c2, .int .i64 qu, .int .i64 bu, .slice a5 U.length c5, .slice a6 G.length c6] 28 ∧ OwnRows W w2.heap.size (.slice a0 pr.length c0) (.slice a1 pd.length c1) (.slice a2 C.length c2) (.slice a5 U.length c5) (.slice a6 G.length c6) pr pd C U G ∧ Since w2 W
def OBox (w2 W : World) (s3 : Value) (qu bu : Int) (pr : List Txt) (pd : List (Txt × Int)) : Prop := ∃ g, s3 = .pointer (some ⟨g, 0, none⟩) ∧ OPol w2 W g qu bu pr pd [] [] []
/-- What OwnPolicy makes. -/
def OwnPol (w : World) (qu bu : Int) (P : Pol) (e : Ending) (W : World) : Prop :=
  ∃ a0 a1 a2 a5 a6 : Option Addr, ∃ c0 c1 c2 c5 c6 : Nat, ∃ C U G, C.map Prod.fst = P.cl ∧ U.map Prod.fst = P.ru ∧ G.map Prod.fst = P.gr ∧ e = .returned (.agg #[.slice a0 P.pr.length c0, .slice a1 P.pd.length c1, .slice a2 C.length c2, .int .i64 qu, .int .i64 bu, .slice a5 U.length c5, .slice a6 G.length c6]) ∧ OwnRows W w.heap.size (.slice a0 P.pr.length c0) (.slice a1 P.pd.length c1) (.slice a2 C.length c2) (.slice a5 U.length c5) (.slice a6 G.length c6) P.pr P.pd C U G ∧ Since w W
theorem clrInfo : (Tryd.prog.info? 49).map (fun i => (i.zero, i.size, i.bytes)) = some (some (.agg #[.string ByteArray.empty, .slice none 0 0]), 2, 40) := by kernel_rfl
theorem rulInfo : (Tryd.prog.info? 42).map (fun i => (i.zero, i.size, i.bytes)) = some (some (.agg #[.string ByteArray.empty, .string ByteArray.empty, .int .i64 0, .bool false, .string ByteArray.empty, .bool false, .string ByteArray.empty, .bool false, .string ByteArray.empty, .bool false, .string ByteArray.empty, .slice none 0 0]), 12, 160) := by kernel_rfl
theorem grnInfo : (Tryd.prog.info? 54).map (fun i => (i.zero, i.size, i.bytes)) = some (some (.agg #[.string ByteArray.empty, .string ByteArray.empty, .string ByteArray.empty, .int .i64 0, .bool false, .string ByteArray.empty, .bool false, .string ByteArray.empty, .bool false, .string ByteArray.empty, .bool false, .string ByteArray.empty, .slice none 0 0]), 13, 176) := by kernel_rfl

set_option maxHeartbeats 0 in
set_option maxRecDepth 100000 in
theorem ownpol_any (ap ad ac ar ag : Option Addr) (np cp nd cd nc cc nr cr ng cg : Nat) (qu bu : Int) (P : Pol) (w : World) (hP : PolAt w ap ad ac ar ag np cp nd cd nc cc nr cr ng cg qu bu P) (hf : PolFits P) :
    Calls Tryd.prog 13 #[.agg #[.slice ap np cp, .slice ad nd cd, .slice ac nc cc, .int .i64 qu, .int .i64 bu, .slice ar nr cr, .slice ag ng cg]] w (OwnPol w qu bu P) := by
  obtain ⟨i2, hi, hz0, hz1, hz2⟩ := info_parts clrInfo
  have I2 := Lib.hid (And.intro hi (And.intro hz0 (And.intro hz1 hz2)))
  clear hi hz0 hz1 hz2
  obtain ⟨i5, hi, hz0, hz1, hz2⟩ := info_parts rulInfo
  have I5 := Lib.hid (And.intro hi (And.intro hz0 (And.intro hz1 hz2)))
  clear hi hz0 hz1 hz2
  obtain ⟨i6, hi, hz0, hz1, hz2⟩ := info_parts grnInfo
  have I6 := Lib.hid (And.intro hi (And.intro hz0 (And.intro hz1 hz2)))
  clear hi hz0 hz1 hz2
  have hS0 : Since w ((w.alloc (.cells #[.slice ap np cp, .slice ad nd cd, .slice ac nc cc, .int .i64 qu, .int .i64 bu, .slice ar nr cr, .slice ag ng cg] 28)).alloc (.cells #[.slice none 0 0, .slice none 0 0, .slice none 0 0, .int .i64 0, .int .i64 0, .slice none 0 0, .slice none 0 0] 28)) := ((Since.refl _).alloc _).alloc _
  have pA := ((pbox_new w ap ad ac ar ag np cp nd cd nc cc nr cr ng cg qu bu 28).next ((Since.refl _).alloc (.cells #[.slice none 0 0, .slice none 0 0, .slice none 0 0, .int .i64 0, .int .i64 0, .slice none 0 0, .slice none 0 0] 28))).at
  have hRes : Cel ((w.alloc (.cells #[.slice ap np cp, .slice ad nd cd, .slice ac nc cc, .int .i64 qu, .int .i64 bu, .slice ar nr cr, .slice ag ng cg] 28)).alloc (.cells #[.slice none 0 0, .slice none 0 0, .slice none 0 0, .int .i64 0, .int .i64 0, .slice none 0 0, .slice none 0 0] 28)) (w.heap.size + 1) #[.slice none 0 0, .slice none 0 0, .slice none 0 0, .int .i64 0, .int .i64 0, .slice none 0 0, .slice none 0 0] 28 := by
    have h : Cel ((w.alloc (.cells #[.slice ap np cp, .slice ad nd cd, .slice ac nc cc, .int .i64 qu, .int .i64 bu, .slice ar nr cr, .slice ag ng cg] 28)).alloc (.cells #[.slice none 0 0, .slice none 0 0, .slice none 0 0, .int .i64 0, .int .i64 0, .slice none 0 0, .slice none 0 0] 28)) (w.alloc (.cells #[.slice ap np cp, .slice ad nd cd, .slice ac nc cc, .int .i64 qu, .int .i64 bu, .slice ar nr cr, .slice ag ng cg] 28)).heap.size #[.slice none 0 0, .slice none 0 0, .slice none 0 0, .int .i64 0, .int .i64 0, .slice none 0 0, .slice none 0 0] 28 := heap_alloc_new _ _
    rwa [World.size_alloc] at h
  have hsz : ((w.alloc (.cells #[.slice ap np cp, .slice ad nd cd, .slice ac nc cc, .int .i64 qu, .int .i64 bu, .slice ar nr cr, .slice ag ng cg] 28)).alloc (.cells #[.slice none 0 0, .slice none 0 0, .slice none 0 0, .int .i64 0, .int .i64 0, .slice none 0 0, .slice none 0 0] 28)).heap.size = w.heap.size + 1 + 1 := by simp
  have HPOL := Lib.hid (hP.next hS0)
  have lr := hf.2.1
  have lp := hf.2.2.2.1
  go_enter Tryd.func13, Tryd.ntmps13
  go_wp2_with fail
  generalize ((w.alloc (.cells #[.slice ap np cp, .slice ad nd cd, .slice ac nc cc, .int .i64 qu, .int .i64 bu, .slice ar nr cr, .slice ag ng cg] 28)).alloc (.cells #[.slice none 0 0, .slice none 0 0, .slice none 0 0, .int .i64 0, .int .i64 0, .slice none 0 0, .slice none 0 0] 28)) = w2 at *
  go_cut [3] from 7 to 17 (fun s3 W => OBox w2 W s3 qu bu P.pr P.pd)
  case first =>
    have ha0 : Since w2 w2.drew := (Since.refl _).drew
    refine hx_begin (S := fun W => Since w2 W) (by kernel_rfl) ha0 (by kernel_rfl) (fun _ _ _ _ _ h => h) (fun hns hQ => ?_)
    refine hx_take (i := 0) (oi := _) (v := .pointer (some ⟨w.heap.size, 0, none⟩)) rfl rfl hns (by kernel_rfl) (by kernel_rfl) hQ (by kernel_rfl) (fun _ _ => by kernel_rfl) ha0 ?_
    refine hx_take (i := 1) (oi := _) (v := .slice ap np cp) rfl rfl hns (by kernel_rfl) (by kernel_rfl) hQ (by kernel_rfl) (fun W hW => ld_one rfl (by kernel_rfl) (by kernel_rfl) W (pA.next hW 0 _ rfl)) ha0 ?_
    refine hx_take (i := 3) (oi := _) (v := .pointer (some ⟨w.heap.size, 1, none⟩)) rfl rfl hns (by kernel_rfl) (by kernel_rfl) hQ (by kernel_rfl) (fun _ _ => by kernel_rfl) ha0 ?_
    refine hx_take (i := 4) (oi := _) (v := .slice ad nd cd) rfl rfl hns (by kernel_rfl) (by kernel_rfl) hQ (by kernel_rfl) (fun W hW => ld_one rfl (by kernel_rfl) (by kernel_rfl) W (pA.next hW 1 _ rfl)) ha0 ?_
    refine hx_take (i := 6) (oi := _) (v := .pointer (some ⟨w.heap.size, 3, none⟩)) rfl rfl hns (by kernel_rfl) (by kernel_rfl) hQ (by kernel_rfl) (fun _ _ => by kernel_rfl) ha0 ?_
    refine hx_take (i := 7) (oi := _) (v := .int .i64 qu) rfl rfl hns (by kernel_rfl) (by kernel_rfl) hQ (by kernel_rfl) (fun W hW => ld_one rfl (by kernel_rfl) (by kernel_rfl) W (pA.next hW 3 _ rfl)) ha0 ?_
    refine hx_take (i := 8) (oi := _) (v := .pointer (some ⟨w.heap.size, 4, none⟩)) rfl rfl hns (by kernel_rfl) (by kernel_rfl) hQ (by kernel_rfl) (fun _ _ => by kernel_rfl) ha0 ?_
    refine hx_take (i := 9) (oi := _) (v := .int .i64 bu) rfl rfl hns (by kernel_rfl) (by kernel_rfl) hQ (by kernel_rfl) (fun W hW => ld_one rfl (by kernel_rfl) (by kernel_rfl) W (pA.next hW 4 _ rfl)) ha0 ?_
    refine hx_two_cv (i := 2) (j := 11) 39 #[.slice ap np cp] (.pointer (some ⟨w2.drew.heap.size, 0, none⟩)) ((w2.drew.alloc (.cells #[.slice none 0 0, .slice none 0 0, .slice none 0 0, .int .i64 0, .int .i64 0, .slice none 0 0, .slice none 0 0] 28))) rfl rfl (by kernel_rfl) (by kernel_rfl) (by kernel_rfl) rfl (by kernel_rfl) (own_txt _ P.pr _ (HPOL.out.next ha0).1 lr) rfl (by kernel_rfl) (ha0.alloc _) ?_ ?_
    · rintro e wx51 ⟨v0, rfl, hR0, hb⟩
      have ha1 : Since w2 wx51 := ha0.trans hb
      replace hR0 := own_base hR0 (ha0).size
      obtain ⟨a0, c0, rfl⟩ := own_slice hR0
      clear hb
      refine ⟨_, rfl, ha1, ?_⟩
      refine hx_two_cv (i := 5) (j := 11) 40 #[.slice ad nd cd] (.pointer (some ⟨wx51.heap.size, 0, none⟩)) ((wx51.alloc (.cells #[.slice none 0 0, .slice none 0 0, .slice none 0 0, .int .i64 0, .int .i64 0, .slice none 0 0, .slice none 0 0] 28))) rfl rfl (by kernel_rfl) (by kernel_rfl) (by kernel_rfl) rfl (by kernel_rfl) (own_prd _ P.pd _ (HPOL.out.next ha1).2.1 lp) rfl (by kernel_rfl) (ha1.alloc _) ?_ ?_
      · rintro e wx52 ⟨v1, rfl, hR1, hb⟩
        have ha2 : Since w2 wx52 := ha1.trans hb
        replace hR0 := own_since hR0 hb
        replace hR1 := own_base hR1 (ha1).size
        obtain ⟨a1, c1, rfl⟩ := own_slice hR1
        clear hb
        refine ⟨_, rfl, ha2, ?_⟩
        refine hx_take (i := 10) (oi := _) (v := .agg #[.slice a0 P.pr.length c0, .slice a1 P.pd.length c1, .slice none 0 0, .int .i64 qu, .int .i64 bu, .slice none 0 0, .slice none 0 0]) rfl rfl hns (by kernel_rfl) (by kernel_rfl) hQ (by kernel_rfl) (fun _ _ => by kernel_rfl) ha2 ?_
        have ha3 : Since w2 (wx52.alloc (.cells #[.slice none 0 0, .slice none 0 0, .slice none 0 0, .int .i64 0, .int .i64 0, .slice none 0 0, .slice none 0 0] 28)) := ha2.alloc _
        have hge : w2.heap.size ≤ wx52.heap.size := (ha2).size
        replace hR0 := own_since hR0 ((Since.refl wx52).alloc (.cells #[.slice none 0 0, .slice none 0 0, .slice none 0 0, .int .i64 0, .int .i64 0, .slice none 0 0, .slice none 0 0] 28))
        replace hR1 := own_since hR1 ((Since.refl wx52).alloc (.cells #[.slice none 0 0, .slice none 0 0, .slice none 0 0, .int .i64 0, .int .i64 0, .slice none 0 0, .slice none 0 0] 28))
        have hCel : Cel (wx52.alloc (.cells #[.slice none 0 0, .slice none 0 0, .slice none 0 0, .int .i64 0, .int .i64 0, .slice none 0 0, .slice none 0 0] 28)) wx52.heap.size #[.slice none 0 0, .slice none 0 0, .slice none 0 0, .int .i64 0, .int .i64 0, .slice none 0 0, .slice none 0 0] 28 := heap_alloc_new _ _
        refine hx_make (i := 11) (oi := _) (.pointer (some ⟨wx52.heap.size, 0, none⟩)) (wx52.alloc (.cells #[.slice none 0 0, .slice none 0 0, .slice none 0 0, .int .i64 0, .int .i64 0, .slice none 0 0, .slice none 0 0] 28)) rfl rfl (by kernel_rfl) (by kernel_rfl) (by kernel_rfl) ha3 ?_
        have hone : (((#[.slice a0 P.pr.length c0, .slice a1 P.pd.length c1, .slice none 0 0, .int .i64 qu, .int .i64 bu, .slice none 0 0, .slice none 0 0] : Array Value)).all (·.oneCell')) = true := by simp [Value.oneCell']
        have ha4 : Since w2 ((wx52.alloc (.cells #[.slice none 0 0, .slice none 0 0, .slice none 0 0, .int .i64 0, .int .i64 0, .slice none 0 0, .slice none 0 0] 28)).setRow wx52.heap.size #[.slice a0 P.pr.length c0, .slice a1 P.pd.length c1, .slice none 0 0, .int .i64 qu, .int .i64 bu, .slice none 0 0, .slice none 0 0]) := since_setRow ha3 hge _
        refine hx_store (i := 12) (oi := _) ((wx52.alloc (.cells #[.slice none 0 0, .slice none 0 0, .slice none 0 0, .int .i64 0, .int .i64 0, .slice none 0 0, .slice none 0 0] 28)).setRow wx52.heap.size #[.slice a0 P.pr.length c0, .slice a1 P.pd.length c1, .slice none 0 0, .int .i64 qu, .int .i64 bu, .slice none 0 0, .slice none 0 0]) rfl rfl (by kernel_rfl) (by kernel_rfl) (st_row (old := #[.slice none 0 0, .slice none 0 0, .slice none 0 0, .int .i64 0, .int .i64 0, .slice none 0 0, .slice none 0 0]) (cells := #[.slice a0 P.pr.length c0, .slice a1 P.pd.length c1, .slice none 0 0, .int .i64 qu, .int .i64 bu, .slice none 0 0, .slice none 0 0]) rfl (by kernel_rfl) (by kernel_rfl) (by kernel_rfl) rfl hone (wx52.alloc (.cells #[.slice none 0 0, .slice none 0 0, .slice none 0 0, .int .i64 0, .int .i64 0, .slice none 0 0, .slice none 0 0] 28)) hCel) ha4 ?_
        replace hR0 := own_setRow (ds := #[.slice a0 P.pr.length c0, .slice a1 P.pd.length c1, .slice none 0 0, .int .i64 qu, .int .i64 bu, .slice none 0 0, .slice none 0 0]) hR0 hCel (by decide)
        replace hR1 := own_setRow (ds := #[.slice a0 P.pr.length c0, .slice a1 P.pd.length c1, .slice none 0 0, .int .i64 qu, .int .i64 bu, .slice none 0 0, .slice none 0 0]) hR1 hCel (by decide)
        replace hCel := hCel.row #[.slice a0 P.pr.length c0, .slice a1 P.pd.length c1, .slice none 0 0, .int .i64 qu, .int .i64 bu, .slice none 0 0, .slice none 0 0]
        refine wpAnyH_done (by kernel_rfl) ?_ _
        clear hns hQ
        simp only [List.set_cons_zero, List.set_cons_succ]
        go_wp2_with fail
        go_meet
        case rel => exact ⟨_, rfl, a0, a1, none, none, none, c0, c1, 0, 0, 0, [], [], [], rfl, rfl, rfl, hge, hCel, ⟨hR0, hR1, Nest.nil, Nest.nil, Nest.nil, fun p hp => (List.not_mem_nil hp).elim, fun p hp => (List.not_mem_nil hp).elim⟩, ha4⟩
      · have ha2 : Since w2 (wx51.alloc (.cells #[.slice none 0 0, .slice none 0 0, .slice none 0 0, .int .i64 0, .int .i64 0, .slice none 0 0, .slice none 0 0] 28)) := ha1.alloc _
        have hge : w2.heap.size ≤ wx51.heap.size := (ha1).size
        replace hR0 := own_since hR0 ((Since.refl wx51).alloc (.cells #[.slice none 0 0, .slice none 0 0, .slice none 0 0, .int .i64 0, .int .i64 0, .slice none 0 0, .slice none 0 0] 28))
        have hCel : Cel (wx51.alloc (.cells #[.slice none 0 0, .slice none 0 0, .slice none 0 0, .int .i64 0, .int .i64 0, .slice none 0 0, .slice none 0 0] 28)) wx51.heap.size #[.slice none 0 0, .slice none 0 0, .slice none 0 0, .int .i64 0, .int .i64 0, .slice none 0 0, .slice none 0 0] 28 := heap_alloc_new _ _
        refine hx_call (i := 5) (oi := _) 40 #[.slice ad nd cd] rfl rfl (by kernel_rfl) (by kernel_rfl) (by kernel_rfl) (own_prd _ P.pd _ (HPOL.out.next ha2).2.1 lp) ?_
        rintro e wx52 ⟨v1, rfl, hR1, hb⟩
        have ha3 : Since w2 wx52 := ha2.trans hb
        replace hR0 := own_since hR0 hb
        replace hCel := hCel.next hb
        replace hR1 := own_base hR1 (ha2).size
        obtain ⟨a1, c1, rfl⟩ := own_slice hR1
        clear hb
        refine ⟨_, rfl, ha3, ?_⟩
        refine hx_take (i := 10) (oi := _) (v := .agg #[.slice a0 P.pr.length c0, .slice a1 P.pd.length c1, .slice none 0 0, .int .i64 qu, .int .i64 bu, .slice none 0 0, .slice none 0 0]) rfl rfl hns (by kernel_rfl) (by kernel_rfl) hQ (by kernel_rfl) (fun _ _ => by kernel_rfl) ha3 ?_
        have hone : (((#[.slice a0 P.pr.length c0, .slice a1 P.pd.length c1, .slice none 0 0, .int .i64 qu, .int .i64 bu, .slice none 0 0, .slice none 0 0] : Array Value)).all (·.oneCell')) = true := by simp [Value.oneCell']
        have ha4 : Since w2 (wx52.setRow wx51.heap.size #[.slice a0 P.pr.length c0, .slice a1 P.pd.length c1, .slice none 0 0, .int .i64 qu, .int .i64 bu, .slice none 0 0, .slice none 0 0]) := since_setRow ha3 hge _
        refine hx_store (i := 12) (oi := _) (wx52.setRow wx51.heap.size #[.slice a0 P.pr.length c0, .slice a1 P.pd.length c1, .slice none 0 0, .int .i64 qu, .int .i64 bu, .slice none 0 0, .slice none 0 0]) rfl rfl (by kernel_rfl) (by kernel_rfl) (st_row (old := #[.slice none 0 0, .slice none 0 0, .slice none 0 0, .int .i64 0, .int .i64 0, .slice none 0 0, .slice none 0 0]) (cells := #[.slice a0 P.pr.length c0, .slice a1 P.pd.length c1, .slice none 0 0, .int .i64 qu, .int .i64 bu, .slice none 0 0, .slice none 0 0]) rfl (by kernel_rfl) (by kernel_rfl) (by kernel_rfl) rfl hone wx52 hCel) ha4 ?_
        replace hR0 := own_setRow (ds := #[.slice a0 P.pr.length c0, .slice a1 P.pd.length c1, .slice none 0 0, .int .i64 qu, .int .i64 bu, .slice none 0 0, .slice none 0 0]) hR0 hCel (by decide)
        replace hR1 := own_setRow (ds := #[.slice a0 P.pr.length c0, .slice a1 P.pd.length c1, .slice none 0 0, .int .i64 qu, .int .i64 bu, .slice none 0 0, .slice none 0 0]) hR1 hCel (by decide)
        replace hCel := hCel.row #[.slice a0 P.pr.length c0, .slice a1 P.pd.length c1, .slice none 0 0, .int .i64 qu, .int .i64 bu, .slice none 0 0, .slice none 0 0]
        refine wpAnyH_done (by kernel_rfl) ?_ _
        clear hns hQ
        simp only [List.set_cons_zero, List.set_cons_succ]
        go_wp2_with fail
        go_meet
        case rel => exact ⟨_, rfl, a0, a1, none, none, none, c0, c1, 0, 0, 0, [], [], [], rfl, rfl, rfl, hge, hCel, ⟨hR0, hR1, Nest.nil, Nest.nil, Nest.nil, fun p hp => (List.not_mem_nil hp).elim, fun p hp => (List.not_mem_nil hp).elim⟩, ha4⟩
    · have ha1 : Since w2 (w2.drew.alloc (.cells #[.slice none 0 0, .slice none 0 0, .slice none 0 0, .int .i64 0, .int .i64 0, .slice none 0 0, .slice none 0 0] 28)) := ha0.alloc _
      have hge : w2.heap.size ≤ w2.drew.heap.size := (ha0).size
      have hCel : Cel (w2.drew.alloc (.cells #[.slice none 0 0, .slice none 0 0, .slice none 0 0, .int .i64 0, .int .i64 0, .slice none 0 0, .slice none 0 0] 28)) w2.drew.heap.size #[.slice none 0 0, .slice none 0 0, .slice none 0 0, .int .i64 0, .int .i64 0, .slice none 0 0, .slice none 0 0] 28 := heap_alloc_new _ _
      refine hx_call (i := 2) (oi := _) 39 #[.slice ap np cp] rfl rfl (by kernel_rfl) (by kernel_rfl) (by kernel_rfl) (own_txt _ P.pr _ (HPOL.out.next ha1).1 lr) ?_
      rintro e wx51 ⟨v0, rfl, hR0, hb⟩
      have ha2 : Since w2 wx51 := ha1.trans hb
      replace hCel := hCel.next hb
      replace hR0 := own_base hR0 (ha1).size
      obtain ⟨a0, c0, rfl⟩ := own_slice hR0
      clear hb
      refine ⟨_, rfl, ha2, ?_⟩
      refine hx_call (i := 5) (oi := _) 40 #[.slice ad nd cd] rfl rfl (by kernel_rfl) (by kernel_rfl) (by kernel_rfl) (own_prd _ P.pd _ (HPOL.out.next ha2).2.1 lp) ?_
      rintro e wx52 ⟨v1, rfl, hR1, hb⟩
      have ha3 : Since w2 wx52 := ha2.trans hb
      replace hCel := hCel.next hb
      replace hR0 := own_since hR0 hb
      replace hR1 := own_base hR1 (ha2).size
      obtain ⟨a1, c1, rfl⟩ := own_slice hR1
      clear hb
      refine ⟨_, rfl, ha3, ?_⟩
      refine hx_take (i := 10) (oi := _) (v := .agg #[.slice a0 P.pr.length c0, .slice a1 P.pd.length c1, .slice none 0 0, .int .i64 qu, .int .i64 bu, .slice none 0 0, .slice none 0 0]) rfl rfl hns (by kernel_rfl) (by kernel_rfl) hQ (by kernel_rfl) (fun _ _ => by kernel_rfl) ha3 ?_
      have hone : (((#[.slice a0 P.pr.length c0, .slice a1 P.pd.length c1, .slice none 0 0, .int .i64 qu, .int .i64 bu, .slice none 0 0, .slice none 0 0] : Array Value)).all (·.oneCell')) = true := by simp [Value.oneCell']
      have ha4 : Since w2 (wx52.setRow w2.drew.heap.size #[.slice a0 P.pr.length c0, .slice a1 P.pd.length c1, .slice none 0 0, .int .i64 qu, .int .i64 bu, .slice none 0 0, .slice none 0 0]) := since_setRow ha3 hge _
      refine hx_store (i := 12) (oi := _) (wx52.setRow w2.drew.heap.size #[.slice a0 P.pr.length c0, .slice a1 P.pd.length c1, .slice none 0 0, .int .i64 qu, .int .i64 bu, .slice none 0 0, .slice none 0 0]) rfl rfl (by kernel_rfl) (by kernel_rfl) (st_row (old := #[.slice none 0 0, .slice none 0 0, .slice none 0 0, .int .i64 0, .int .i64 0, .slice none 0 0, .slice none 0 0]) (cells := #[.slice a0 P.pr.length c0, .slice a1 P.pd.length c1, .slice none 0 0, .int .i64 qu, .int .i64 bu, .slice none 0 0, .slice none 0 0]) rfl (by kernel_rfl) (by kernel_rfl) (by kernel_rfl) rfl hone wx52 hCel) ha4 ?_
      replace hR0 := own_setRow (ds := #[.slice a0 P.pr.length c0, .slice a1 P.pd.length c1, .slice none 0 0, .int .i64 qu, .int .i64 bu, .slice none 0 0, .slice none 0 0]) hR0 hCel (by decide)
      replace hR1 := own_setRow (ds := #[.slice a0 P.pr.length c0, .slice a1 P.pd.length c1, .slice none 0 0, .int .i64 qu, .int .i64 bu, .slice none 0 0, .slice none 0 0]) hR1 hCel (by decide)
      replace hCel := hCel.row #[.slice a0 P.pr.length c0, .slice a1 P.pd.length c1, .slice none 0 0, .int .i64 qu, .int .i64 bu, .slice none 0 0, .slice none 0 0]
      refine wpAnyH_done (by kernel_rfl) ?_ _
      clear hns hQ
      simp only [List.set_cons_zero, List.set_cons_succ]
      go_wp2_with fail
      go_meet
      case rel => exact ⟨_, rfl, a0, a1, none, none, none, c0, c1, 0, 0, 0, [], [], [], rfl, rfl, rfl, hge, hCel, ⟨hR0, hR1, Nest.nil, Nest.nil, Nest.nil, fun p hp => (List.not_mem_nil hp).elim, fun p hp => (List.not_mem_nil hp).elim⟩, ha4⟩
  case rest =>
  obtain ⟨g, e3, hO⟩ := hcut
  subst e3
  have hO0 : OPol w2 wc g qu bu P.pr P.pd (P.cl.take 0) [] [] := hO
  clear hO
  have e2 : wc.cell? ⟨w.heap.size, 2, none⟩ = some (.slice ac nc cc) := by
    obtain ⟨_, _, _, _, _, _, _, _, _, _, _, _, _, _, _, _, _, _, _, hSr⟩ := hO0
    exact (pA.next hSr) 2 _ rfl
  go_wp2_with fail
  clear e2
  go_loopw [4] (fun m wr => ∃ k : Nat, k ≤ nc ∧ m = .int .i64 (k : Int) ∧ OPol w2 wr g qu bu P.pr P.pd (P.cl.take k) [] []) (fun m _ => nc - (intOf m).toNat)
  case atStart => exact ⟨0, by omega, rfl, hO0⟩
  case round =>
  clear hO0
  obtain ⟨k, hk, rfl, hO⟩ := hrel
  have hSr : Since w2 wr := by
    obtain ⟨_, _, _, _, _, _, _, _, _, _, _, _, _, _, _, _, _, _, _, hSr⟩ := hO
    exact hSr
  have e2 : wr.cell? ⟨w.heap.size, 2, none⟩ = some (.slice ac nc cc) := (pA.next hSr) 2 _ rfl
  by_cases hlt : k < nc
  · have hkl : k < P.cl.length := by have := HPOL.out.2.2.1.form; omega
    have hlt2 : (k : Int) < (nc : Int) := by omega
    have hlt0 : (0 : Int) ≤ (k : Int) := by omega
    go_wp2_with fail
    clear e2
    obtain ⟨b, o, e1, hc, hat⟩ := HPOL.out.2.2.1.get (by omega)
    have d1 := hat k hkl
    have hfx := hf.2.2.2.2.1 _ (List.getElem_mem hkl)
    have htk : Hid (P.cl.take k ++ [P.cl[k]] = P.cl.take (k + 1)) := take_more P.cl k hkl
    obtain ⟨⟨s, T⟩, hx⟩ : ∃ x, Hid (x = P.cl[k]) := ⟨P.cl[k], rfl⟩
    rw [← hx.out] at d1 hfx htk
    unfold ClrAt at d1
    simp only [strV] at d1
    obtain ⟨d1, u, d2, d3⟩ := d1
    obtain ⟨ua, uc, rfl⟩ := d3.slice
    have xA : At w2 b (o + k * 2) #[.string ⟨s.toArray⟩, .slice ua T.length uc] := at_two d1 d2
    have hlT : T.length ≤ 1000000 := hfx.2
    clear d1 d2
    have HD3 := Lib.hid d3
    have hlk : (P.cl.take k).length = k := by rw [List.length_take]; omega
    have hkm : k ≤ 1000000 := by have := hf.2.2.2.2.2.1; omega
    subst e1
    clear hat hfx hx d3
    obtain ⟨a0, a1, a2, a5, a6, c0, c1, c2, c5, c6, C, U, G, eC, eU, eG, hge, hC, hR, hSq⟩ := hO
    have hCl : C.length = k := by rw [← List.length_map (f := Prod.fst), eC, hlk]
    have hb20 : Since w2 wr.drew := (hSr).drew
    replace hC := hC.next ((Since.refl wr).drew)
    replace hR := hR.next ((Since.refl wr).drew)
    refine hx_begin (S := fun W => Since w2 W) (by kernel_rfl) hb20 (by kernel_rfl) (fun _ _ _ _ _ h => h) (fun hns hQ => ?_)
    refine hx_take (i := 0) (oi := _) (v := .pointer (some ⟨g, 2, none⟩)) rfl rfl hns (by kernel_rfl) (by kernel_rfl) hQ (by kernel_rfl) (fun _ _ => by kernel_rfl) hb20 ?_
    refine hx_take (i := 2) (oi := _) (v := .pointer (some ⟨w.heap.size, 2, none⟩)) rfl rfl hns (by kernel_rfl) (by kernel_rfl) hQ (by kernel_rfl) (fun _ _ => by kernel_rfl) hb20 ?_
    refine hx_take (i := 3) (oi := _) (v := .slice (some ⟨b, o, none⟩) nc cc) rfl rfl hns (by kernel_rfl) (by kernel_rfl) hQ (by kernel_rfl) (fun W hW => ld_one rfl (by kernel_rfl) (by kernel_rfl) W (pA.next hW 2 _ rfl)) hb20 ?_
    refine hx_take (i := 4) (oi := _) (v := .int .i64 (k : Int)) rfl rfl hns (by kernel_rfl) (by kernel_rfl) hQ (by kernel_rfl) (fun _ _ => by kernel_rfl) hb20 ?_
    refine hx_take (i := 5) (oi := _) (v := .pointer (some ⟨b, o + k * 2, none⟩)) rfl rfl hns (by kernel_rfl) (by kernel_rfl) hQ (by kernel_rfl) (fun W _ => ix_sl (n := nc) (c := cc) (K := 2) rfl (by kernel_rfl) (by kernel_rfl) (by kernel_rfl) rfl hlt W) hb20 ?_
    refine hx_take (i := 6) (oi := _) (v := .pointer (some ⟨b, o + k * 2, none⟩)) rfl rfl hns (by kernel_rfl) (by kernel_rfl) hQ (by kernel_rfl) (fun _ _ => by kernel_rfl) hb20 ?_
    refine hx_take (i := 7) (oi := _) (v := .string ⟨s.toArray⟩) rfl rfl hns (by kernel_rfl) (by kernel_rfl) hQ (by kernel_rfl) (fun W hW => ld_one rfl (by kernel_rfl) (by kernel_rfl) W (xA.next hW 0 _ rfl)) hb20 ?_
    refine hx_take (i := 8) (oi := _) (v := .pointer (some ⟨w.heap.size, 2, none⟩)) rfl rfl hns (by kernel_rfl) (by kernel_rfl) hQ (by kernel_rfl) (fun _ _ => by kernel_rfl) hb20 ?_
    refine hx_take (i := 9) (oi := _) (v := .slice (some ⟨b, o, none⟩) nc cc) rfl rfl hns (by kernel_rfl) (by kernel_rfl) hQ (by kernel_rfl) (fun W hW => ld_one rfl (by kernel_rfl) (by kernel_rfl) W (pA.next hW 2 _ rfl)) hb20 ?_
    refine hx_take (i := 10) (oi := _) (v := .int .i64 (k : Int)) rfl rfl hns (by kernel_rfl) (by kernel_rfl) hQ (by kernel_rfl) (fun _ _ => by kernel_rfl) hb20 ?_
    refine hx_take (i := 11) (oi := _) (v := .pointer (some ⟨b, o + k * 2, none⟩)) rfl rfl hns (by kernel_rfl) (by kernel_rfl) hQ (by kernel_rfl) (fun W _ => ix_sl (n := nc) (c := cc) (K := 2) rfl (by kernel_rfl) (by kernel_rfl) (by kernel_rfl) rfl hlt W) hb20 ?_
    refine hx_take (i := 12) (oi := _) (v := .pointer (some ⟨b, o + k * 2 + 1, none⟩)) rfl rfl hns (by kernel_rfl) (by kernel_rfl) hQ (by kernel_rfl) (fun _ _ => by kernel_rfl) hb20 ?_
    refine hx_take (i := 13) (oi := _) (v := .slice ua T.length uc) rfl rfl hns (by kernel_rfl) (by kernel_rfl) hQ (by kernel_rfl) (fun W hW => ld_one rfl (by kernel_rfl) (by kernel_rfl) W (xA.next hW 1 _ rfl)) hb20 ?_
    refine hx_two_vc (i := 1) (j := 14) (.slice a2 C.length c2) (wr.drew) 39 #[.slice ua T.length uc] rfl rfl (by kernel_rfl) (by kernel_rfl) (by kernel_rfl) rfl (ld_one rfl (by kernel_rfl) (by kernel_rfl) wr.drew (hC.cell 2)) hb20 rfl (by kernel_rfl) (own_txt _ T _ (tnext HD3.out hb20) hlT) ?_ ?_
    · have hLT0 : ∀ p ∈ C, ∀ b, p.2.ownBlock = some b → b < wr.drew.heap.size := fun p hp b hb => ((hR.h2.ins p hp).lt b hb).2
      have hL00 : ∀ b, (Value.slice a0 P.pr.length c0).ownBlock = some b → b < wr.drew.heap.size := fun b hb => (hR.h0.lt b hb).2
      refine hx_call (i := 14) (oi := _) 39 #[.slice ua T.length uc] rfl rfl (by kernel_rfl) (by kernel_rfl) (by kernel_rfl) (own_txt _ T _ (tnext HD3.out hb20) hlT) ?_
      rintro e wx61 ⟨vx, rfl, hU, hb⟩
      have hb21 : Since w2 wx61 := hb20.trans hb
      replace hC := hC.next hb
      replace hR := hR.next hb
      have hBU : w2.heap.size ≤ wr.drew.heap.size := (hb20).size
      have hLT : ∀ p ∈ C, ∀ b, p.2.ownBlock = some b → b < wr.drew.heap.size := hLT0
      clear hLT0
      obtain ⟨ax, cx, rfl⟩ := own_slice hU
      have hAX : apartV (.slice ax T.length cx) (.slice a0 P.pr.length c0) := apart_lt hU hL00
      clear hL00
      clear hb
      refine ⟨_, rfl, hb21, ?_⟩
      refine hx_take (i := 15) (oi := _) (v := .agg #[.string ⟨s.toArray⟩, .slice ax T.length cx]) rfl rfl hns (by kernel_rfl) (by kernel_rfl) hQ (by kernel_rfl) (fun _ _ => by kernel_rfl) hb21 ?_
      have hb22 : Since w2 (wx61.alloc (.cells #[.string ⟨s.toArray⟩, .slice ax T.length cx] 49)) := hb21.alloc _
      replace hC := hC.next ((Since.refl wx61).alloc (.cells #[.string ⟨s.toArray⟩, .slice ax T.length cx] 49))
      replace hR := hR.next ((Since.refl wx61).alloc (.cells #[.string ⟨s.toArray⟩, .slice ax T.length cx] 49))
      replace hU := own_since hU ((Since.refl wx61).alloc (.cells #[.string ⟨s.toArray⟩, .slice ax T.length cx] 49))
      refine hx_make (i := 16) (oi := _) (.slice (some ⟨wx61.heap.size, 0, none⟩) 1 1) (wx61.alloc (.cells #[.string ⟨s.toArray⟩, .slice ax T.length cx] 49)) rfl rfl (by kernel_rfl) (by kernel_rfl) (by kernel_rfl) hb22 ?_
      refine hx_append (i := 17) (oi := _) (.tmp 26) (.tmp 41) 24 w2.heap.size 49 i2 (.agg #[.string ByteArray.empty, .slice none 0 0]) 2 40 (.slice a2 C.length c2) C.length _ _ (some ⟨wx61.heap.size, 0, none⟩) 1 1 [.string ⟨s.toArray⟩, .slice ax T.length cx] rfl rfl (by kernel_rfl) (by kernel_rfl) rfl Tryd.underlying24 I2.out.1 I2.out.2.1 I2.out.2.2.1 I2.out.2.2.2 rfl (by decide) (by kernel_rfl) hR.h2.row (by kernel_rfl) (reads_new _ #[.string ⟨s.toArray⟩, .slice ax T.length cx] _ 2 rfl) (by simp [Value.oneCell']) (by unfold maxLen; omega) (by omega) (hb22).size ?_
      intro v4 w4 hown4 hg4 hb4
      have hb23 : Since w2 w4 := Below.grown hb22 hg4 (hb22).size (own_ge hR.h2.row)
      obtain ⟨a4, c4, rfl⟩ := own_slice hown4
      have hC4 := cel_own hC hR.h2.row (by decide) hg4
      have hR4 : OwnRows w4 w2.heap.size (.slice a0 P.pr.length c0) (.slice a1 P.pd.length c1) (.slice a4 (C.length + 1) c4) (.slice a5 U.length c5) (.slice a6 G.length c6) P.pr P.pd (C ++ [((s, T), .slice ax T.length cx)]) U G := ⟨own_other hR.h0 hR.h2.row (by decide) hg4, own_other hR.h1 hR.h2.row (by decide) hg4, hR.h2.push (x := (s, T)) hLT hU hBU hown4 rfl hg4 (by decide), hR.h5.own hR.h2.row hg4 (by decide) (by decide), hR.h6.own hR.h2.row hg4 (by decide) (by decide), (fun p hp => by rcases List.mem_append.1 hp with h | h; exact hR.h02 p h; obtain rfl := List.mem_singleton.1 h; exact hAX), hR.h56⟩
      clear hC hR hU hown4 hg4 hb4 hLT
      refine ⟨hb23, ?_⟩
      refine hx_take (i := 18) (oi := _) (v := .pointer (some ⟨g, 2, none⟩)) rfl rfl hns (by kernel_rfl) (by kernel_rfl) hQ (by kernel_rfl) (fun _ _ => by kernel_rfl) hb23 ?_
      have hb24 : Since w2 (w4.setCell ⟨g, 2, none⟩ (.slice a4 (C.length + 1) c4)) := hb23.setCell hge _
      refine hx_store (i := 19) (oi := _) (w4.setCell ⟨g, 2, none⟩ (.slice a4 (C.length + 1) c4)) rfl rfl (by kernel_rfl) (by kernel_rfl) (st_clr rfl (by kernel_rfl) (by kernel_rfl) _ hC4 rfl) hb24 ?_
      replace hR4 := hR4.cel hC4 (grown_setCell w4 g 2 (.slice a4 (C.length + 1) c4))
      replace hC4 := hC4.set (j := 2) (u := .slice a4 (C.length + 1) c4) rfl
      refine wpAnyH_done (by kernel_rfl) ?_ _
      clear hns hQ
      simp only [List.set_cons_zero, List.set_cons_succ]
      have eX : (C ++ [((s, T), Value.slice ax T.length cx)]).map Prod.fst = P.cl.take (k + 1) := by rw [List.map_append, eC, ← htk.out]; rfl
      have hl1 : (C ++ [((s, T), Value.slice ax T.length cx)]).length = C.length + 1 := by simp
      rw [← hl1] at hR4 hC4
      have hOP : OPol w2 (w4.setCell ⟨g, 2, none⟩ (.slice a4 (C ++ [((s, T), Value.slice ax T.length cx)]).length c4)) g qu bu P.pr P.pd (P.cl.take (k + 1)) [] [] := ⟨a0, a1, a4, a5, a6, c0, c1, c4, c5, c6, _, U, G, eX, eU, eG, hge, hC4, hR4, by rw [hl1]; exact hb24⟩
      rw [hl1, hCl] at hOP
      clear hC4 hR4 eX
      go_wp2_with fail
      go_roundw
      case rel => exact ⟨k + 1, by omega, by go_num, hOP⟩
      case measure => simp [intOf]; omega
    · have hLT0 : ∀ p ∈ C, ∀ b, p.2.ownBlock = some b → b < wr.drew.heap.size := fun p hp b hb => ((hR.h2.ins p hp).lt b hb).2
      have hL00 : ∀ b, (Value.slice a0 P.pr.length c0).ownBlock = some b → b < wr.drew.heap.size := fun b hb => (hR.h0.lt b hb).2
      rintro e wx61 ⟨vx, rfl, hU, hb⟩
      have hb21 : Since w2 wx61 := hb20.trans hb
      replace hC := hC.next hb
      replace hR := hR.next hb
      have hBU : w2.heap.size ≤ wr.drew.heap.size := (hb20).size
      have hLT : ∀ p ∈ C, ∀ b, p.2.ownBlock = some b → b < wr.drew.heap.size := hLT0
      clear hLT0
      obtain ⟨ax, cx, rfl⟩ := own_slice hU
      have hAX : apartV (.slice ax T.length cx) (.slice a0 P.pr.length c0) := apart_lt hU hL00
      clear hL00
      clear hb
      refine ⟨_, rfl, hb21, ?_⟩
      refine hx_take (i := 15) (oi := _) (v := .agg #[.string ⟨s.toArray⟩, .slice ax T.length cx]) rfl rfl hns (by kernel_rfl) (by kernel_rfl) hQ (by kernel_rfl) (fun _ _ => by kernel_rfl) hb21 ?_
      refine hx_two_vv (i := 1) (j := 16) (.slice a2 C.length c2) (wx61) (.slice (some ⟨wx61.heap.size, 0, none⟩) 1 1) ((wx61.alloc (.cells #[.string ⟨s.toArray⟩, .slice ax T.length cx] 49))) rfl rfl (by kernel_rfl) (by kernel_rfl) (by kernel_rfl) rfl (ld_one rfl (by kernel_rfl) (by kernel_rfl) wx61 (hC.cell 2)) hb21 rfl (by kernel_rfl) (hb21.alloc _) ?_ ?_
      · have hb22 : Since w2 (wx61.alloc (.cells #[.string ⟨s.toArray⟩, .slice ax T.length cx] 49)) := hb21.alloc _
        replace hC := hC.next ((Since.refl wx61).alloc (.cells #[.string ⟨s.toArray⟩, .slice ax T.length cx] 49))
        replace hR := hR.next ((Since.refl wx61).alloc (.cells #[.string ⟨s.toArray⟩, .slice ax T.length cx] 49))
        replace hU := own_since hU ((Since.refl wx61).alloc (.cells #[.string ⟨s.toArray⟩, .slice ax T.length cx] 49))
        refine hx_make (i := 16) (oi := _) (.slice (some ⟨wx61.heap.size, 0, none⟩) 1 1) (wx61.alloc (.cells #[.string ⟨s.toArray⟩, .slice ax T.length cx] 49)) rfl rfl (by kernel_rfl) (by kernel_rfl) (by kernel_rfl) hb22 ?_
        refine hx_append (i := 17) (oi := _) (.tmp 26) (.tmp 41) 24 w2.heap.size 49 i2 (.agg #[.string ByteArray.empty, .slice none 0 0]) 2 40 (.slice a2 C.length c2) C.length _ _ (some ⟨wx61.heap.size, 0, none⟩) 1 1 [.string ⟨s.toArray⟩, .slice ax T.length cx] rfl rfl (by kernel_rfl) (by kernel_rfl) rfl Tryd.underlying24 I2.out.1 I2.out.2.1 I2.out.2.2.1 I2.out.2.2.2 rfl (by decide) (by kernel_rfl) hR.h2.row (by kernel_rfl) (reads_new _ #[.string ⟨s.toArray⟩, .slice ax T.length cx] _ 2 rfl) (by simp [Value.oneCell']) (by unfold maxLen; omega) (by omega) (hb22).size ?_
        intro v4 w4 hown4 hg4 hb4
        have hb23 : Since w2 w4 := Below.grown hb22 hg4 (hb22).size (own_ge hR.h2.row)
        obtain ⟨a4, c4, rfl⟩ := own_slice hown4
        have hC4 := cel_own hC hR.h2.row (by decide) hg4
        have hR4 : OwnRows w4 w2.heap.size (.slice a0 P.pr.length c0) (.slice a1 P.pd.length c1) (.slice a4 (C.length + 1) c4) (.slice a5 U.length c5) (.slice a6 G.length c6) P.pr P.pd (C ++ [((s, T), .slice ax T.length cx)]) U G := ⟨own_other hR.h0 hR.h2.row (by decide) hg4, own_other hR.h1 hR.h2.row (by decide) hg4, hR.h2.push (x := (s, T)) hLT hU hBU hown4 rfl hg4 (by decide), hR.h5.own hR.h2.row hg4 (by decide) (by decide), hR.h6.own hR.h2.row hg4 (by decide) (by decide), (fun p hp => by rcases List.mem_append.1 hp with h | h; exact hR.h02 p h; obtain rfl := List.mem_singleton.1 h; exact hAX), hR.h56⟩
        clear hC hR hU hown4 hg4 hb4 hLT
        refine ⟨hb23, ?_⟩
        refine hx_take (i := 18) (oi := _) (v := .pointer (some ⟨g, 2, none⟩)) rfl rfl hns (by kernel_rfl) (by kernel_rfl) hQ (by kernel_rfl) (fun _ _ => by kernel_rfl) hb23 ?_
        have hb24 : Since w2 (w4.setCell ⟨g, 2, none⟩ (.slice a4 (C.length + 1) c4)) := hb23.setCell hge _
        refine hx_store (i := 19) (oi := _) (w4.setCell ⟨g, 2, none⟩ (.slice a4 (C.length + 1) c4)) rfl rfl (by kernel_rfl) (by kernel_rfl) (st_clr rfl (by kernel_rfl) (by kernel_rfl) _ hC4 rfl) hb24 ?_
        replace hR4 := hR4.cel hC4 (grown_setCell w4 g 2 (.slice a4 (C.length + 1) c4))
        replace hC4 := hC4.set (j := 2) (u := .slice a4 (C.length + 1) c4) rfl
        refine wpAnyH_done (by kernel_rfl) ?_ _
        clear hns hQ
        simp only [List.set_cons_zero, List.set_cons_succ]
        have eX : (C ++ [((s, T), Value.slice ax T.length cx)]).map Prod.fst = P.cl.take (k + 1) := by rw [List.map_append, eC, ← htk.out]; rfl
        have hl1 : (C ++ [((s, T), Value.slice ax T.length cx)]).length = C.length + 1 := by simp
        rw [← hl1] at hR4 hC4
        have hOP : OPol w2 (w4.setCell ⟨g, 2, none⟩ (.slice a4 (C ++ [((s, T), Value.slice ax T.length cx)]).length c4)) g qu bu P.pr P.pd (P.cl.take (k + 1)) [] [] := ⟨a0, a1, a4, a5, a6, c0, c1, c4, c5, c6, _, U, G, eX, eU, eG, hge, hC4, hR4, by rw [hl1]; exact hb24⟩
        rw [hl1, hCl] at hOP
        clear hC4 hR4 eX
        go_wp2_with fail
        go_roundw
        case rel => exact ⟨k + 1, by omega, by go_num, hOP⟩
        case measure => simp [intOf]; omega
      · have hb22 : Since w2 (wx61.alloc (.cells #[.string ⟨s.toArray⟩, .slice ax T.length cx] 49)) := hb21.alloc _
        replace hC := hC.next ((Since.refl wx61).alloc (.cells #[.string ⟨s.toArray⟩, .slice ax T.length cx] 49))
        replace hR := hR.next ((Since.refl wx61).alloc (.cells #[.string ⟨s.toArray⟩, .slice ax T.length cx] 49))
        replace hU := own_since hU ((Since.refl wx61).alloc (.cells #[.string ⟨s.toArray⟩, .slice ax T.length cx] 49))
        refine hx_make (i := 1) (oi := _) (.slice a2 C.length c2) ((wx61.alloc (.cells #[.string ⟨s.toArray⟩, .slice ax T.length cx] 49))) rfl rfl (by kernel_rfl) (by kernel_rfl) (ld_one rfl (by kernel_rfl) (by kernel_rfl) (wx61.alloc (.cells #[.string ⟨s.toArray⟩, .slice ax T.length cx] 49)) (hC.cell 2)) hb22 ?_
        refine hx_append (i := 17) (oi := _) (.tmp 26) (.tmp 41) 24 w2.heap.size 49 i2 (.agg #[.string ByteArray.empty, .slice none 0 0]) 2 40 (.slice a2 C.length c2) C.length _ _ (some ⟨wx61.heap.size, 0, none⟩) 1 1 [.string ⟨s.toArray⟩, .slice ax T.length cx] rfl rfl (by kernel_rfl) (by kernel_rfl) rfl Tryd.underlying24 I2.out.1 I2.out.2.1 I2.out.2.2.1 I2.out.2.2.2 rfl (by decide) (by kernel_rfl) hR.h2.row (by kernel_rfl) (reads_new _ #[.string ⟨s.toArray⟩, .slice ax T.length cx] _ 2 rfl) (by simp [Value.oneCell']) (by unfold maxLen; omega) (by omega) (hb22).size ?_
        intro v4 w4 hown4 hg4 hb4
        have hb23 : Since w2 w4 := Below.grown hb22 hg4 (hb22).size (own_ge hR.h2.row)
        obtain ⟨a4, c4, rfl⟩ := own_slice hown4
        have hC4 := cel_own hC hR.h2.row (by decide) hg4
        have hR4 : OwnRows w4 w2.heap.size (.slice a0 P.pr.length c0) (.slice a1 P.pd.length c1) (.slice a4 (C.length + 1) c4) (.slice a5 U.length c5) (.slice a6 G.length c6) P.pr P.pd (C ++ [((s, T), .slice ax T.length cx)]) U G := ⟨own_other hR.h0 hR.h2.row (by decide) hg4, own_other hR.h1 hR.h2.row (by decide) hg4, hR.h2.push (x := (s, T)) hLT hU hBU hown4 rfl hg4 (by decide), hR.h5.own hR.h2.row hg4 (by decide) (by decide), hR.h6.own hR.h2.row hg4 (by decide) (by decide), (fun p hp => by rcases List.mem_append.1 hp with h | h; exact hR.h02 p h; obtain rfl := List.mem_singleton.1 h; exact hAX), hR.h56⟩
        clear hC hR hU hown4 hg4 hb4 hLT
        refine ⟨hb23, ?_⟩
        refine hx_take (i := 18) (oi := _) (v := .pointer (some ⟨g, 2, none⟩)) rfl rfl hns (by kernel_rfl) (by kernel_rfl) hQ (by kernel_rfl) (fun _ _ => by kernel_rfl) hb23 ?_
        have hb24 : Since w2 (w4.setCell ⟨g, 2, none⟩ (.slice a4 (C.length + 1) c4)) := hb23.setCell hge _
        refine hx_store (i := 19) (oi := _) (w4.setCell ⟨g, 2, none⟩ (.slice a4 (C.length + 1) c4)) rfl rfl (by kernel_rfl) (by kernel_rfl) (st_clr rfl (by kernel_rfl) (by kernel_rfl) _ hC4 rfl) hb24 ?_
        replace hR4 := hR4.cel hC4 (grown_setCell w4 g 2 (.slice a4 (C.length + 1) c4))
        replace hC4 := hC4.set (j := 2) (u := .slice a4 (C.length + 1) c4) rfl
        refine wpAnyH_done (by kernel_rfl) ?_ _
        clear hns hQ
        simp only [List.set_cons_zero, List.set_cons_succ]
        have eX : (C ++ [((s, T), Value.slice ax T.length cx)]).map Prod.fst = P.cl.take (k + 1) := by rw [List.map_append, eC, ← htk.out]; rfl
        have hl1 : (C ++ [((s, T), Value.slice ax T.length cx)]).length = C.length + 1 := by simp
        rw [← hl1] at hR4 hC4
        have hOP : OPol w2 (w4.setCell ⟨g, 2, none⟩ (.slice a4 (C ++ [((s, T), Value.slice ax T.length cx)]).length c4)) g qu bu P.pr P.pd (P.cl.take (k + 1)) [] [] := ⟨a0, a1, a4, a5, a6, c0, c1, c4, c5, c6, _, U, G, eX, eU, eG, hge, hC4, hR4, by rw [hl1]; exact hb24⟩
        rw [hl1, hCl] at hOP
        clear hC4 hR4 eX
        go_wp2_with fail
        go_roundw
        case rel => exact ⟨k + 1, by omega, by go_num, hOP⟩
        case measure => simp [intOf]; omega
  have hlt2 : ¬ (k : Int) < (nc : Int) := by omega
  rw [List.take_of_length_le (by have := HPOL.out.2.2.1.form; omega)] at hO
  have hO0 : OPol w2 wr g qu bu P.pr P.pd P.cl (P.ru.take 0) [] := hO
  have e3 : wr.cell? ⟨w.heap.size, 5, none⟩ = some (.slice ar nr cr) := (pA.next hSr) 5 _ rfl
  clear hO
  go_wp2_with fail
  clear e2 e3 hSr hlt hlt2 hk
  go_loopw [5] (fun m wr => ∃ k : Nat, k ≤ nr ∧ m = .int .i64 (k : Int) ∧ OPol w2 wr g qu bu P.pr P.pd P.cl (P.ru.take k) []) (fun m _ => nr - (intOf m).toNat)
  case atStart => exact ⟨0, by omega, rfl, hO0⟩
  case round =>
  clear hO0
  obtain ⟨k, hk, rfl, hO⟩ := hrel
  have hSr : Since w2 wr := by
    obtain ⟨_, _, _, _, _, _, _, _, _, _, _, _, _, _, _, _, _, _, _, hSr⟩ := hO
    exact hSr
  have e2 : wr.cell? ⟨w.heap.size, 5, none⟩ = some (.slice ar nr cr) := (pA.next hSr) 5 _ rfl
  by_cases hlt : k < nr
  · have hkl : k < P.ru.length := by have := HPOL.out.2.2.2.2.2.1.form; omega
    have hlt2 : (k : Int) < (nr : Int) := by omega
    have hlt0 : (0 : Int) ≤ (k : Int) := by omega
    go_wp2_with fail
    clear e2
    obtain ⟨b, o, e1, hc, hat⟩ := HPOL.out.2.2.2.2.2.1.get (by omega)
    have d1 := hat k hkl
    have hfx := hf.2.2.2.2.2.2.1 _ (List.getElem_mem hkl)
    have htk : Hid (P.ru.take k ++ [P.ru[k]] = P.ru.take (k + 1)) := take_more P.ru k hkl
    obtain ⟨⟨x, T⟩, hx⟩ : ∃ x, Hid (x = P.ru[k]) := ⟨P.ru[k], rfl⟩
    rw [← hx.out] at d1 hfx htk
    obtain ⟨x_s, x_p, x_n, ⟨x_v0, x_l0⟩, ⟨x_v1, x_l1⟩, ⟨x_v2, x_l2⟩, ⟨x_v3, x_l3⟩⟩ := x
    unfold RulAt at d1
    obtain ⟨d1, u, d2, d3⟩ := d1
    obtain ⟨ua, uc, rfl⟩ := d3.slice
    simp only at d2 d3 hfx
    have xA : At w2 b (o + k * 12) #[.string ⟨x_s.toArray⟩, .string ⟨x_p.toArray⟩, .int .i64 x_n, .bool x_v0, .string ⟨x_l0.toArray⟩, .bool x_v1, .string ⟨x_l1.toArray⟩, .bool x_v2, .string ⟨x_l2.toArray⟩, .bool x_v3, .string ⟨x_l3.toArray⟩] := d1
    have uA : At w2 b (o + k * 12 + 11) #[.slice ua T.length uc] := At.one d2
    have hlT : T.length ≤ 1000000 := by have := hfx.2.2; omega
    clear d1 d2
    have HD3 := Lib.hid d3
    have hlk : (P.ru.take k).length = k := by rw [List.length_take]; omega
    have hkm : k ≤ 1000000 := by have := hf.2.2.2.2.2.2.2.2.1; omega
    subst e1
    clear hat hfx hx d3
    obtain ⟨a0, a1, a2, a5, a6, c0, c1, c2, c5, c6, C, U, G, eC, eU, eG, hge, hC, hR, hSq⟩ := hO
    have hCl : U.length = k := by rw [← List.length_map (f := Prod.fst), eU, hlk]
    have hb50 : Since w2 wr.drew := (hSr).drew
    replace hC := hC.next ((Since.refl wr).drew)
    replace hR := hR.next ((Since.refl wr).drew)
    refine hx_begin (S := fun W => Since w2 W) (by kernel_rfl) hb50 (by kernel_rfl) (fun _ _ _ _ _ h => h) (fun hns hQ => ?_)
    refine hx_take (i := 0) (oi := _) (v := .pointer (some ⟨g, 5, none⟩)) rfl rfl hns (by kernel_rfl) (by kernel_rfl) hQ (by kernel_rfl) (fun _ _ => by kernel_rfl) hb50 ?_
    refine hx_take (i := 2) (oi := _) (v := .pointer (some ⟨w.heap.size, 5, none⟩)) rfl rfl hns (by kernel_rfl) (by kernel_rfl) hQ (by kernel_rfl) (fun _ _ => by kernel_rfl) hb50 ?_
    refine hx_take (i := 3) (oi := _) (v := .slice (some ⟨b, o, none⟩) nr cr) rfl rfl hns (by kernel_rfl) (by kernel_rfl) hQ (by kernel_rfl) (fun W hW => ld_one rfl (by kernel_rfl) (by kernel_rfl) W (pA.next hW 5 _ rfl)) hb50 ?_
    refine hx_take (i := 4) (oi := _) (v := .int .i64 (k : Int)) rfl rfl hns (by kernel_rfl) (by kernel_rfl) hQ (by kernel_rfl) (fun _ _ => by kernel_rfl) hb50 ?_
    refine hx_take (i := 5) (oi := _) (v := .pointer (some ⟨b, o + k * 12, none⟩)) rfl rfl hns (by kernel_rfl) (by kernel_rfl) hQ (by kernel_rfl) (fun W _ => ix_sl (n := nr) (c := cr) (K := 12) rfl (by kernel_rfl) (by kernel_rfl) (by kernel_rfl) rfl hlt W) hb50 ?_
    refine hx_take (i := 6) (oi := _) (v := .pointer (some ⟨b, o + k * 12, none⟩)) rfl rfl hns (by kernel_rfl) (by kernel_rfl) hQ (by kernel_rfl) (fun _ _ => by kernel_rfl) hb50 ?_
    refine hx_take (i := 7) (oi := _) (v := .agg #[.string ⟨x_s.toArray⟩, .string ⟨x_p.toArray⟩, .int .i64 x_n, .bool x_v0, .string ⟨x_l0.toArray⟩, .bool x_v1, .string ⟨x_l1.toArray⟩, .bool x_v2, .string ⟨x_l2.toArray⟩, .bool x_v3, .string ⟨x_l3.toArray⟩]) rfl rfl hns (by kernel_rfl) (by kernel_rfl) hQ (by kernel_rfl) (fun W hW => ld_at rfl (by kernel_rfl) (by kernel_rfl) (by kernel_rfl) W (xA.next hW)) hb50 ?_
    refine hx_take (i := 8) (oi := _) (v := .pointer (some ⟨w.heap.size, 5, none⟩)) rfl rfl hns (by kernel_rfl) (by kernel_rfl) hQ (by kernel_rfl) (fun _ _ => by kernel_rfl) hb50 ?_
    refine hx_take (i := 9) (oi := _) (v := .slice (some ⟨b, o, none⟩) nr cr) rfl rfl hns (by kernel_rfl) (by kernel_rfl) hQ (by kernel_rfl) (fun W hW => ld_one rfl (by kernel_rfl) (by kernel_rfl) W (pA.next hW 5 _ rfl)) hb50 ?_
    refine hx_take (i := 10) (oi := _) (v := .int .i64 (k : Int)) rfl rfl hns (by kernel_rfl) (by kernel_rfl) hQ (by kernel_rfl) (fun _ _ => by kernel_rfl) hb50 ?_
    refine hx_take (i := 11) (oi := _) (v := .pointer (some ⟨b, o + k * 12, none⟩)) rfl rfl hns (by kernel_rfl) (by kernel_rfl) hQ (by kernel_rfl) (fun W _ => ix_sl (n := nr) (c := cr) (K := 12) rfl (by kernel_rfl) (by kernel_rfl) (by kernel_rfl) rfl hlt W) hb50 ?_
    refine hx_take (i := 12) (oi := _) (v := .pointer (some ⟨b, o + k * 12 + 11, none⟩)) rfl rfl hns (by kernel_rfl) (by kernel_rfl) hQ (by kernel_rfl) (fun _ _ => by kernel_rfl) hb50 ?_
    refine hx_take (i := 13) (oi := _) (v := .slice ua T.length uc) rfl rfl hns (by kernel_rfl) (by kernel_rfl) hQ (by kernel_rfl) (fun W hW => ld_one rfl (by kernel_rfl) (by kernel_rfl) W (uA.next hW 0 _ rfl)) hb50 ?_
    refine hx_two_vc (i := 1) (j := 14) (.slice a5 U.length c5) (wr.drew) 41 #[.slice ua T.length uc] rfl rfl (by kernel_rfl) (by kernel_rfl) (by kernel_rfl) rfl (ld_one rfl (by kernel_rfl) (by kernel_rfl) wr.drew (hC.cell 5)) hb50 rfl (by kernel_rfl) (own_atm _ T _ (anext HD3.out hb50) hlT) ?_ ?_
    · have hLT0 : ∀ p ∈ U, ∀ b, p.2.ownBlock = some b → b < wr.drew.heap.size := fun p hp b hb => ((hR.h5.ins p hp).lt b hb).2
      refine hx_call (i := 14) (oi := _) 41 #[.slice ua T.length uc] rfl rfl (by kernel_rfl) (by kernel_rfl) (by kernel_rfl) (own_atm _ T _ (anext HD3.out hb50) hlT) ?_
      rintro e wx71 ⟨vx, rfl, hU, hb⟩
      have hb51 : Since w2 wx71 := hb50.trans hb
      replace hC := hC.next hb
      replace hR := hR.next hb
      have hBU : w2.heap.size ≤ wr.drew.heap.size := (hb50).size
      have hLT : ∀ p ∈ U, ∀ b, p.2.ownBlock = some b → b < wr.drew.heap.size := hLT0
      clear hLT0
      obtain ⟨ax, cx, rfl⟩ := own_slice hU
      clear hb
      refine ⟨_, rfl, hb51, ?_⟩
      refine hx_take (i := 15) (oi := _) (v := .agg #[.string ⟨x_s.toArray⟩, .string ⟨x_p.toArray⟩, .int .i64 x_n, .bool x_v0, .string ⟨x_l0.toArray⟩, .bool x_v1, .string ⟨x_l1.toArray⟩, .bool x_v2, .string ⟨x_l2.toArray⟩, .bool x_v3, .string ⟨x_l3.toArray⟩, .slice ax T.length cx]) rfl rfl hns (by kernel_rfl) (by kernel_rfl) hQ (by kernel_rfl) (fun _ _ => by kernel_rfl) hb51 ?_
      have hb52 : Since w2 (wx71.alloc (.cells #[.string ⟨x_s.toArray⟩, .string ⟨x_p.toArray⟩, .int .i64 x_n, .bool x_v0, .string ⟨x_l0.toArray⟩, .bool x_v1, .string ⟨x_l1.toArray⟩, .bool x_v2, .string ⟨x_l2.toArray⟩, .bool x_v3, .string ⟨x_l3.toArray⟩, .slice ax T.length cx] 42)) := hb51.alloc _
      replace hC := hC.next ((Since.refl wx71).alloc (.cells #[.string ⟨x_s.toArray⟩, .string ⟨x_p.toArray⟩, .int .i64 x_n, .bool x_v0, .string ⟨x_l0.toArray⟩, .bool x_v1, .string ⟨x_l1.toArray⟩, .bool x_v2, .string ⟨x_l2.toArray⟩, .bool x_v3, .string ⟨x_l3.toArray⟩, .slice ax T.length cx] 42))
      replace hR := hR.next ((Since.refl wx71).alloc (.cells #[.string ⟨x_s.toArray⟩, .string ⟨x_p.toArray⟩, .int .i64 x_n, .bool x_v0, .string ⟨x_l0.toArray⟩, .bool x_v1, .string ⟨x_l1.toArray⟩, .bool x_v2, .string ⟨x_l2.toArray⟩, .bool x_v3, .string ⟨x_l3.toArray⟩, .slice ax T.length cx] 42))
      replace hU := own_since hU ((Since.refl wx71).alloc (.cells #[.string ⟨x_s.toArray⟩, .string ⟨x_p.toArray⟩, .int .i64 x_n, .bool x_v0, .string ⟨x_l0.toArray⟩, .bool x_v1, .string ⟨x_l1.toArray⟩, .bool x_v2, .string ⟨x_l2.toArray⟩, .bool x_v3, .string ⟨x_l3.toArray⟩, .slice ax T.length cx] 42))
      refine hx_make (i := 16) (oi := _) (.slice (some ⟨wx71.heap.size, 0, none⟩) 1 1) (wx71.alloc (.cells #[.string ⟨x_s.toArray⟩, .string ⟨x_p.toArray⟩, .int .i64 x_n, .bool x_v0, .string ⟨x_l0.toArray⟩, .bool x_v1, .string ⟨x_l1.toArray⟩, .bool x_v2, .string ⟨x_l2.toArray⟩, .bool x_v3, .string ⟨x_l3.toArray⟩, .slice ax T.length cx] 42)) rfl rfl (by kernel_rfl) (by kernel_rfl) (by kernel_rfl) hb52 ?_
      refine hx_append (i := 17) (oi := _) (.tmp 52) (.tmp 67) 25 w2.heap.size 42 i5 (.agg #[.string ByteArray.empty, .string ByteArray.empty, .int .i64 0, .bool false, .string ByteArray.empty, .bool false, .string ByteArray.empty, .bool false, .string ByteArray.empty, .bool false, .string ByteArray.empty, .slice none 0 0]) 12 160 (.slice a5 U.length c5) U.length _ _ (some ⟨wx71.heap.size, 0, none⟩) 1 1 [.string ⟨x_s.toArray⟩, .string ⟨x_p.toArray⟩, .int .i64 x_n, .bool x_v0, .string ⟨x_l0.toArray⟩, .bool x_v1, .string ⟨x_l1.toArray⟩, .bool x_v2, .string ⟨x_l2.toArray⟩, .bool x_v3, .string ⟨x_l3.toArray⟩, .slice ax T.length cx] rfl rfl (by kernel_rfl) (by kernel_rfl) rfl Tryd.underlying25 I5.out.1 I5.out.2.1 I5.out.2.2.1 I5.out.2.2.2 rfl (by decide) (by kernel_rfl) hR.h5.row (by kernel_rfl) (reads_new _ #[.string ⟨x_s.toArray⟩, .string ⟨x_p.toArray⟩, .int .i64 x_n, .bool x_v0, .string ⟨x_l0.toArray⟩, .bool x_v1, .string ⟨x_l1.toArray⟩, .bool x_v2, .string ⟨x_l2.toArray⟩, .bool x_v3, .string ⟨x_l3.toArray⟩, .slice ax T.length cx] _ 12 rfl) (by simp [Value.oneCell']) (by unfold maxLen; omega) (by omega) (hb52).size ?_
      intro v4 w4 hown4 hg4 hb4
      have hb53 : Since w2 w4 := Below.grown hb52 hg4 (hb52).size (own_ge hR.h5.row)
      obtain ⟨a4, c4, rfl⟩ := own_slice hown4
      have hC4 := cel_own hC hR.h5.row (by decide) hg4
      have hR4 : OwnRows w4 w2.heap.size (.slice a0 P.pr.length c0) (.slice a1 P.pd.length c1) (.slice a2 C.length c2) (.slice a4 (U.length + 1) c4) (.slice a6 G.length c6) P.pr P.pd C (U ++ [((((x_s, x_p, x_n, (x_v0, x_l0), (x_v1, x_l1), (x_v2, x_l2), (x_v3, x_l3)) : Atm), T), .slice ax T.length cx)]) G := ⟨own_other hR.h0 hR.h5.row (by decide) hg4, own_other hR.h1 hR.h5.row (by decide) hg4, hR.h2.own hR.h5.row hg4 (by decide) (by decide), hR.h5.push (x := (((x_s, x_p, x_n, (x_v0, x_l0), (x_v1, x_l1), (x_v2, x_l2), (x_v3, x_l3)) : Atm), T)) hLT hU hBU hown4 rfl hg4 (by decide), hR.h6.own hR.h5.row hg4 (by decide) (by decide), hR.h02, (fun q hq p hp => by rw [List.map_eq_nil_iff.1 eG] at hq; cases hq)⟩
      clear hC hR hU hown4 hg4 hb4 hLT
      refine ⟨hb53, ?_⟩
      refine hx_take (i := 18) (oi := _) (v := .pointer (some ⟨g, 5, none⟩)) rfl rfl hns (by kernel_rfl) (by kernel_rfl) hQ (by kernel_rfl) (fun _ _ => by kernel_rfl) hb53 ?_
      have hb54 : Since w2 (w4.setCell ⟨g, 5, none⟩ (.slice a4 (U.length + 1) c4)) := hb53.setCell hge _
      refine hx_store (i := 19) (oi := _) (w4.setCell ⟨g, 5, none⟩ (.slice a4 (U.length + 1) c4)) rfl rfl (by kernel_rfl) (by kernel_rfl) (st_rul rfl (by kernel_rfl) (by kernel_rfl) _ hC4 rfl) hb54 ?_
      replace hR4 := hR4.cel hC4 (grown_setCell w4 g 5 (.slice a4 (U.length + 1) c4))
      replace hC4 := hC4.set (j := 5) (u := .slice a4 (U.length + 1) c4) rfl
      refine wpAnyH_done (by kernel_rfl) ?_ _
      clear hns hQ
      simp only [List.set_cons_zero, List.set_cons_succ]
      have eX : (U ++ [((((x_s, x_p, x_n, (x_v0, x_l0), (x_v1, x_l1), (x_v2, x_l2), (x_v3, x_l3)) : Atm), T), Value.slice ax T.length cx)]).map Prod.fst = P.ru.take (k + 1) := by rw [List.map_append, eU, ← htk.out]; rfl
      have hl1 : (U ++ [((((x_s, x_p, x_n, (x_v0, x_l0), (x_v1, x_l1), (x_v2, x_l2), (x_v3, x_l3)) : Atm), T), Value.slice ax T.length cx)]).length = U.length + 1 := by simp
      rw [← hl1] at hR4 hC4
      have hOP : OPol w2 (w4.setCell ⟨g, 5, none⟩ (.slice a4 (U ++ [((((x_s, x_p, x_n, (x_v0, x_l0), (x_v1, x_l1), (x_v2, x_l2), (x_v3, x_l3)) : Atm), T), Value.slice ax T.length cx)]).length c4)) g qu bu P.pr P.pd P.cl (P.ru.take (k + 1)) [] := ⟨a0, a1, a2, a4, a6, c0, c1, c2, c4, c6, C, _, G, eC, eX, eG, hge, hC4, hR4, by rw [hl1]; exact hb54⟩
      rw [hl1, hCl] at hOP
      clear hC4 hR4 eX
      go_wp2_with fail
      go_roundw
      case rel => exact ⟨k + 1, by omega, by go_num, hOP⟩
      case measure => simp [intOf]; omega
    · have hLT0 : ∀ p ∈ U, ∀ b, p.2.ownBlock = some b → b < wr.drew.heap.size := fun p hp b hb => ((hR.h5.ins p hp).lt b hb).2
      rintro e wx71 ⟨vx, rfl, hU, hb⟩
      have hb51 : Since w2 wx71 := hb50.trans hb
      replace hC := hC.next hb
      replace hR := hR.next hb
      have hBU : w2.heap.size ≤ wr.drew.heap.size := (hb50).size
      have hLT : ∀ p ∈ U, ∀ b, p.2.ownBlock = some b → b < wr.drew.heap.size := hLT0
      clear hLT0
      obtain ⟨ax, cx, rfl⟩ := own_slice hU
      clear hb
      refine ⟨_, rfl, hb51, ?_⟩
      refine hx_take (i := 15) (oi := _) (v := .agg #[.string ⟨x_s.toArray⟩, .string ⟨x_p.toArray⟩, .int .i64 x_n, .bool x_v0, .string ⟨x_l0.toArray⟩, .bool x_v1, .string ⟨x_l1.toArray⟩, .bool x_v2, .string ⟨x_l2.toArray⟩, .bool x_v3, .string ⟨x_l3.toArray⟩, .slice ax T.length cx]) rfl rfl hns (by kernel_rfl) (by kernel_rfl) hQ (by kernel_rfl) (fun _ _ => by kernel_rfl) hb51 ?_
      refine hx_two_vv (i := 1) (j := 16) (.slice a5 U.length c5) (wx71) (.slice (some ⟨wx71.heap.size, 0, none⟩) 1 1) ((wx71.alloc (.cells #[.string ⟨x_s.toArray⟩, .string ⟨x_p.toArray⟩, .int .i64 x_n, .bool x_v0, .string ⟨x_l0.toArray⟩, .bool x_v1, .string ⟨x_l1.toArray⟩, .bool x_v2, .string ⟨x_l2.toArray⟩, .bool x_v3, .string ⟨x_l3.toArray⟩, .slice ax T.length cx] 42))) rfl rfl (by kernel_rfl) (by kernel_rfl) (by kernel_rfl) rfl (ld_one rfl (by kernel_rfl) (by kernel_rfl) wx71 (hC.cell 5)) hb51 rfl (by kernel_rfl) (hb51.alloc _) ?_ ?_
      · have hb52 : Since w2 (wx71.alloc (.cells #[.string ⟨x_s.toArray⟩, .string ⟨x_p.toArray⟩, .int .i64 x_n, .bool x_v0, .string ⟨x_l0.toArray⟩, .bool x_v1, .string ⟨x_l1.toArray⟩, .bool x_v2, .string ⟨x_l2.toArray⟩, .bool x_v3, .string ⟨x_l3.toArray⟩, .slice ax T.length cx] 42)) := hb51.alloc _
        replace hC := hC.next ((Since.refl wx71).alloc (.cells #[.string ⟨x_s.toArray⟩, .string ⟨x_p.toArray⟩, .int .i64 x_n, .bool x_v0, .string ⟨x_l0.toArray⟩, .bool x_v1, .string ⟨x_l1.toArray⟩, .bool x_v2, .string ⟨x_l2.toArray⟩, .bool x_v3, .string ⟨x_l3.toArray⟩, .slice ax T.length cx] 42))
        replace hR := hR.next ((Since.refl wx71).alloc (.cells #[.string ⟨x_s.toArray⟩, .string ⟨x_p.toArray⟩, .int .i64 x_n, .bool x_v0, .string ⟨x_l0.toArray⟩, .bool x_v1, .string ⟨x_l1.toArray⟩, .bool x_v2, .string ⟨x_l2.toArray⟩, .bool x_v3, .string ⟨x_l3.toArray⟩, .slice ax T.length cx] 42))
        replace hU := own_since hU ((Since.refl wx71).alloc (.cells #[.string ⟨x_s.toArray⟩, .string ⟨x_p.toArray⟩, .int .i64 x_n, .bool x_v0, .string ⟨x_l0.toArray⟩, .bool x_v1, .string ⟨x_l1.toArray⟩, .bool x_v2, .string ⟨x_l2.toArray⟩, .bool x_v3, .string ⟨x_l3.toArray⟩, .slice ax T.length cx] 42))
        refine hx_make (i := 16) (oi := _) (.slice (some ⟨wx71.heap.size, 0, none⟩) 1 1) (wx71.alloc (.cells #[.string ⟨x_s.toArray⟩, .string ⟨x_p.toArray⟩, .int .i64 x_n, .bool x_v0, .string ⟨x_l0.toArray⟩, .bool x_v1, .string ⟨x_l1.toArray⟩, .bool x_v2, .string ⟨x_l2.toArray⟩, .bool x_v3, .string ⟨x_l3.toArray⟩, .slice ax T.length cx] 42)) rfl rfl (by kernel_rfl) (by kernel_rfl) (by kernel_rfl) hb52 ?_
        refine hx_append (i := 17) (oi := _) (.tmp 52) (.tmp 67) 25 w2.heap.size 42 i5 (.agg #[.string ByteArray.empty, .string ByteArray.empty, .int .i64 0, .bool false, .string ByteArray.empty, .bool false, .string ByteArray.empty, .bool false, .string ByteArray.empty, .bool false, .string ByteArray.empty, .slice none 0 0]) 12 160 (.slice a5 U.length c5) U.length _ _ (some ⟨wx71.heap.size, 0, none⟩) 1 1 [.string ⟨x_s.toArray⟩, .string ⟨x_p.toArray⟩, .int .i64 x_n, .bool x_v0, .string ⟨x_l0.toArray⟩, .bool x_v1, .string ⟨x_l1.toArray⟩, .bool x_v2, .string ⟨x_l2.toArray⟩, .bool x_v3, .string ⟨x_l3.toArray⟩, .slice ax T.length cx] rfl rfl (by kernel_rfl) (by kernel_rfl) rfl Tryd.underlying25 I5.out.1 I5.out.2.1 I5.out.2.2.1 I5.out.2.2.2 rfl (by decide) (by kernel_rfl) hR.h5.row (by kernel_rfl) (reads_new _ #[.string ⟨x_s.toArray⟩, .string ⟨x_p.toArray⟩, .int .i64 x_n, .bool x_v0, .string ⟨x_l0.toArray⟩, .bool x_v1, .string ⟨x_l1.toArray⟩, .bool x_v2, .string ⟨x_l2.toArray⟩, .bool x_v3, .string ⟨x_l3.toArray⟩, .slice ax T.length cx] _ 12 rfl) (by simp [Value.oneCell']) (by unfold maxLen; omega) (by omega) (hb52).size ?_
        intro v4 w4 hown4 hg4 hb4
        have hb53 : Since w2 w4 := Below.grown hb52 hg4 (hb52).size (own_ge hR.h5.row)
        obtain ⟨a4, c4, rfl⟩ := own_slice hown4
        have hC4 := cel_own hC hR.h5.row (by decide) hg4
        have hR4 : OwnRows w4 w2.heap.size (.slice a0 P.pr.length c0) (.slice a1 P.pd.length c1) (.slice a2 C.length c2) (.slice a4 (U.length + 1) c4) (.slice a6 G.length c6) P.pr P.pd C (U ++ [((((x_s, x_p, x_n, (x_v0, x_l0), (x_v1, x_l1), (x_v2, x_l2), (x_v3, x_l3)) : Atm), T), .slice ax T.length cx)]) G := ⟨own_other hR.h0 hR.h5.row (by decide) hg4, own_other hR.h1 hR.h5.row (by decide) hg4, hR.h2.own hR.h5.row hg4 (by decide) (by decide), hR.h5.push (x := (((x_s, x_p, x_n, (x_v0, x_l0), (x_v1, x_l1), (x_v2, x_l2), (x_v3, x_l3)) : Atm), T)) hLT hU hBU hown4 rfl hg4 (by decide), hR.h6.own hR.h5.row hg4 (by decide) (by decide), hR.h02, (fun q hq p hp => by rw [List.map_eq_nil_iff.1 eG] at hq; cases hq)⟩
        clear hC hR hU hown4 hg4 hb4 hLT
        refine ⟨hb53, ?_⟩
        refine hx_take (i := 18) (oi := _) (v := .pointer (some ⟨g, 5, none⟩)) rfl rfl hns (by kernel_rfl) (by kernel_rfl) hQ (by kernel_rfl) (fun _ _ => by kernel_rfl) hb53 ?_
        have hb54 : Since w2 (w4.setCell ⟨g, 5, none⟩ (.slice a4 (U.length + 1) c4)) := hb53.setCell hge _
        refine hx_store (i := 19) (oi := _) (w4.setCell ⟨g, 5, none⟩ (.slice a4 (U.length + 1) c4)) rfl rfl (by kernel_rfl) (by kernel_rfl) (st_rul rfl (by kernel_rfl) (by kernel_rfl) _ hC4 rfl) hb54 ?_
        replace hR4 := hR4.cel hC4 (grown_setCell w4 g 5 (.slice a4 (U.length + 1) c4))
        replace hC4 := hC4.set (j := 5) (u := .slice a4 (U.length + 1) c4) rfl
        refine wpAnyH_done (by kernel_rfl) ?_ _
        clear hns hQ
        simp only [List.set_cons_zero, List.set_cons_succ]
        have eX : (U ++ [((((x_s, x_p, x_n, (x_v0, x_l0), (x_v1, x_l1), (x_v2, x_l2), (x_v3, x_l3)) : Atm), T), Value.slice ax T.length cx)]).map Prod.fst = P.ru.take (k + 1) := by rw [List.map_append, eU, ← htk.out]; rfl
        have hl1 : (U ++ [((((x_s, x_p, x_n, (x_v0, x_l0), (x_v1, x_l1), (x_v2, x_l2), (x_v3, x_l3)) : Atm), T), Value.slice ax T.length cx)]).length = U.length + 1 := by simp
        rw [← hl1] at hR4 hC4
        have hOP : OPol w2 (w4.setCell ⟨g, 5, none⟩ (.slice a4 (U ++ [((((x_s, x_p, x_n, (x_v0, x_l0), (x_v1, x_l1), (x_v2, x_l2), (x_v3, x_l3)) : Atm), T), Value.slice ax T.length cx)]).length c4)) g qu bu P.pr P.pd P.cl (P.ru.take (k + 1)) [] := ⟨a0, a1, a2, a4, a6, c0, c1, c2, c4, c6, C, _, G, eC, eX, eG, hge, hC4, hR4, by rw [hl1]; exact hb54⟩
        rw [hl1, hCl] at hOP
        clear hC4 hR4 eX
        go_wp2_with fail
        go_roundw
        case rel => exact ⟨k + 1, by omega, by go_num, hOP⟩
        case measure => simp [intOf]; omega
      · have hb52 : Since w2 (wx71.alloc (.cells #[.string ⟨x_s.toArray⟩, .string ⟨x_p.toArray⟩, .int .i64 x_n, .bool x_v0, .string ⟨x_l0.toArray⟩, .bool x_v1, .string ⟨x_l1.toArray⟩, .bool x_v2, .string ⟨x_l2.toArray⟩, .bool x_v3, .string ⟨x_l3.toArray⟩, .slice ax T.length cx] 42)) := hb51.alloc _
        replace hC := hC.next ((Since.refl wx71).alloc (.cells #[.string ⟨x_s.toArray⟩, .string ⟨x_p.toArray⟩, .int .i64 x_n, .bool x_v0, .string ⟨x_l0.toArray⟩, .bool x_v1, .string ⟨x_l1.toArray⟩, .bool x_v2, .string ⟨x_l2.toArray⟩, .bool x_v3, .string ⟨x_l3.toArray⟩, .slice ax T.length cx] 42))
        replace hR := hR.next ((Since.refl wx71).alloc (.cells #[.string ⟨x_s.toArray⟩, .string ⟨x_p.toArray⟩, .int .i64 x_n, .bool x_v0, .string ⟨x_l0.toArray⟩, .bool x_v1, .string ⟨x_l1.toArray⟩, .bool x_v2, .string ⟨x_l2.toArray⟩, .bool x_v3, .string ⟨x_l3.toArray⟩, .slice ax T.length cx] 42))
        replace hU := own_since hU ((Since.refl wx71).alloc (.cells #[.string ⟨x_s.toArray⟩, .string ⟨x_p.toArray⟩, .int .i64 x_n, .bool x_v0, .string ⟨x_l0.toArray⟩, .bool x_v1, .string ⟨x_l1.toArray⟩, .bool x_v2, .string ⟨x_l2.toArray⟩, .bool x_v3, .string ⟨x_l3.toArray⟩, .slice ax T.length cx] 42))
        refine hx_make (i := 1) (oi := _) (.slice a5 U.length c5) ((wx71.alloc (.cells #[.string ⟨x_s.toArray⟩, .string ⟨x_p.toArray⟩, .int .i64 x_n, .bool x_v0, .string ⟨x_l0.toArray⟩, .bool x_v1, .string ⟨x_l1.toArray⟩, .bool x_v2, .string ⟨x_l2.toArray⟩, .bool x_v3, .string ⟨x_l3.toArray⟩, .slice ax T.length cx] 42))) rfl rfl (by kernel_rfl) (by kernel_rfl) (ld_one rfl (by kernel_rfl) (by kernel_rfl) (wx71.alloc (.cells #[.string ⟨x_s.toArray⟩, .string ⟨x_p.toArray⟩, .int .i64 x_n, .bool x_v0, .string ⟨x_l0.toArray⟩, .bool x_v1, .string ⟨x_l1.toArray⟩, .bool x_v2, .string ⟨x_l2.toArray⟩, .bool x_v3, .string ⟨x_l3.toArray⟩, .slice ax T.length cx] 42)) (hC.cell 5)) hb52 ?_
        refine hx_append (i := 17) (oi := _) (.tmp 52) (.tmp 67) 25 w2.heap.size 42 i5 (.agg #[.string ByteArray.empty, .string ByteArray.empty, .int .i64 0, .bool false, .string ByteArray.empty, .bool false, .string ByteArray.empty, .bool false, .string ByteArray.empty, .bool false, .string ByteArray.empty, .slice none 0 0]) 12 160 (.slice a5 U.length c5) U.length _ _ (some ⟨wx71.heap.size, 0, none⟩) 1 1 [.string ⟨x_s.toArray⟩, .string ⟨x_p.toArray⟩, .int .i64 x_n, .bool x_v0, .string ⟨x_l0.toArray⟩, .bool x_v1, .string ⟨x_l1.toArray⟩, .bool x_v2, .string ⟨x_l2.toArray⟩, .bool x_v3, .string ⟨x_l3.toArray⟩, .slice ax T.length cx] rfl rfl (by kernel_rfl) (by kernel_rfl) rfl Tryd.underlying25 I5.out.1 I5.out.2.1 I5.out.2.2.1 I5.out.2.2.2 rfl (by decide) (by kernel_rfl) hR.h5.row (by kernel_rfl) (reads_new _ #[.string ⟨x_s.toArray⟩, .string ⟨x_p.toArray⟩, .int .i64 x_n, .bool x_v0, .string ⟨x_l0.toArray⟩, .bool x_v1, .string ⟨x_l1.toArray⟩, .bool x_v2, .string ⟨x_l2.toArray⟩, .bool x_v3, .string ⟨x_l3.toArray⟩, .slice ax T.length cx] _ 12 rfl) (by simp [Value.oneCell']) (by unfold maxLen; omega) (by omega) (hb52).size ?_
        intro v4 w4 hown4 hg4 hb4
        have hb53 : Since w2 w4 := Below.grown hb52 hg4 (hb52).size (own_ge hR.h5.row)
        obtain ⟨a4, c4, rfl⟩ := own_slice hown4
        have hC4 := cel_own hC hR.h5.row (by decide) hg4
        have hR4 : OwnRows w4 w2.heap.size (.slice a0 P.pr.length c0) (.slice a1 P.pd.length c1) (.slice a2 C.length c2) (.slice a4 (U.length + 1) c4) (.slice a6 G.length c6) P.pr P.pd C (U ++ [((((x_s, x_p, x_n, (x_v0, x_l0), (x_v1, x_l1), (x_v2, x_l2), (x_v3, x_l3)) : Atm), T), .slice ax T.length cx)]) G := ⟨own_other hR.h0 hR.h5.row (by decide) hg4, own_other hR.h1 hR.h5.row (by decide) hg4, hR.h2.own hR.h5.row hg4 (by decide) (by decide), hR.h5.push (x := (((x_s, x_p, x_n, (x_v0, x_l0), (x_v1, x_l1), (x_v2, x_l2), (x_v3, x_l3)) : Atm), T)) hLT hU hBU hown4 rfl hg4 (by decide), hR.h6.own hR.h5.row hg4 (by decide) (by decide), hR.h02, (fun q hq p hp => by rw [List.map_eq_nil_iff.1 eG] at hq; cases hq)⟩
        clear hC hR hU hown4 hg4 hb4 hLT
        refine ⟨hb53, ?_⟩
        refine hx_take (i := 18) (oi := _) (v := .pointer (some ⟨g, 5, none⟩)) rfl rfl hns (by kernel_rfl) (by kernel_rfl) hQ (by kernel_rfl) (fun _ _ => by kernel_rfl) hb53 ?_
        have hb54 : Since w2 (w4.setCell ⟨g, 5, none⟩ (.slice a4 (U.length + 1) c4)) := hb53.setCell hge _
        refine hx_store (i := 19) (oi := _) (w4.setCell ⟨g, 5, none⟩ (.slice a4 (U.length + 1) c4)) rfl rfl (by kernel_rfl) (by kernel_rfl) (st_rul rfl (by kernel_rfl) (by kernel_rfl) _ hC4 rfl) hb54 ?_
        replace hR4 := hR4.cel hC4 (grown_setCell w4 g 5 (.slice a4 (U.length + 1) c4))
        replace hC4 := hC4.set (j := 5) (u := .slice a4 (U.length + 1) c4) rfl
        refine wpAnyH_done (by kernel_rfl) ?_ _
        clear hns hQ
        simp only [List.set_cons_zero, List.set_cons_succ]
        have eX : (U ++ [((((x_s, x_p, x_n, (x_v0, x_l0), (x_v1, x_l1), (x_v2, x_l2), (x_v3, x_l3)) : Atm), T), Value.slice ax T.length cx)]).map Prod.fst = P.ru.take (k + 1) := by rw [List.map_append, eU, ← htk.out]; rfl
        have hl1 : (U ++ [((((x_s, x_p, x_n, (x_v0, x_l0), (x_v1, x_l1), (x_v2, x_l2), (x_v3, x_l3)) : Atm), T), Value.slice ax T.length cx)]).length = U.length + 1 := by simp
        rw [← hl1] at hR4 hC4
        have hOP : OPol w2 (w4.setCell ⟨g, 5, none⟩ (.slice a4 (U ++ [((((x_s, x_p, x_n, (x_v0, x_l0), (x_v1, x_l1), (x_v2, x_l2), (x_v3, x_l3)) : Atm), T), Value.slice ax T.length cx)]).length c4)) g qu bu P.pr P.pd P.cl (P.ru.take (k + 1)) [] := ⟨a0, a1, a2, a4, a6, c0, c1, c2, c4, c6, C, _, G, eC, eX, eG, hge, hC4, hR4, by rw [hl1]; exact hb54⟩
        rw [hl1, hCl] at hOP
        clear hC4 hR4 eX
        go_wp2_with fail
        go_roundw
        case rel => exact ⟨k + 1, by omega, by go_num, hOP⟩
        case measure => simp [intOf]; omega
  have hlt2 : ¬ (k : Int) < (nr : Int) := by omega
  rw [List.take_of_length_le (by have := HPOL.out.2.2.2.2.2.1.form; omega)] at hO
  have hO0 : OPol w2 wr g qu bu P.pr P.pd P.cl P.ru (P.gr.take 0) := hO
  have e3 : wr.cell? ⟨w.heap.size, 6, none⟩ = some (.slice ag ng cg) := (pA.next hSr) 6 _ rfl
  clear hO
  go_wp2_with fail
  clear e2 e3 hSr hlt hlt2 hk
  go_loopw [6] (fun m wr => ∃ k : Nat, k ≤ ng ∧ m = .int .i64 (k : Int) ∧ OPol w2 wr g qu bu P.pr P.pd P.cl P.ru (P.gr.take k)) (fun m _ => ng - (intOf m).toNat)
  case atStart => exact ⟨0, by omega, rfl, hO0⟩
  case round =>
  clear hO0
  obtain ⟨k, hk, rfl, hO⟩ := hrel
  have hSr : Since w2 wr := by
    obtain ⟨_, _, _, _, _, _, _, _, _, _, _, _, _, _, _, _, _, _, _, hSr⟩ := hO
    exact hSr
  have e2 : wr.cell? ⟨w.heap.size, 6, none⟩ = some (.slice ag ng cg) := (pA.next hSr) 6 _ rfl
  by_cases hlt : k < ng
  · have hkl : k < P.gr.length := by have := HPOL.out.2.2.2.2.2.2.form; omega
    have hlt2 : (k : Int) < (ng : Int) := by omega
    have hlt0 : (0 : Int) ≤ (k : Int) := by omega
    go_wp2_with fail
    clear e2
    obtain ⟨b, o, e1, hc, hat⟩ := HPOL.out.2.2.2.2.2.2.get (by omega)
    have d1 := hat k hkl
    have hfx := hf.2.2.2.2.2.2.2.1 _ (List.getElem_mem hkl)
    have htk : Hid (P.gr.take k ++ [P.gr[k]] = P.gr.take (k + 1)) := take_more P.gr k hkl
    obtain ⟨⟨s, x, T⟩, hx⟩ : ∃ x, Hid (x = P.gr[k]) := ⟨P.gr[k], rfl⟩
    rw [← hx.out] at d1 hfx htk
    obtain ⟨x_s, x_p, x_n, ⟨x_v0, x_l0⟩, ⟨x_v1, x_l1⟩, ⟨x_v2, x_l2⟩, ⟨x_v3, x_l3⟩⟩ := x
    unfold GrnAt at d1
    simp only [strV] at d1
    obtain ⟨d0, d1, u, d2, d3⟩ := d1
    obtain ⟨ua, uc, rfl⟩ := d3.slice
    simp only at d2 d3 hfx
    have sA : At w2 b (o + k * 13) #[.string ⟨s.toArray⟩] := At.one d0
    have xA : At w2 b (o + k * 13 + 1) #[.string ⟨x_s.toArray⟩, .string ⟨x_p.toArray⟩, .int .i64 x_n, .bool x_v0, .string ⟨x_l0.toArray⟩, .bool x_v1, .string ⟨x_l1.toArray⟩, .bool x_v2, .string ⟨x_l2.toArray⟩, .bool x_v3, .string ⟨x_l3.toArray⟩] := d1
    have uA : At w2 b (o + k * 13 + 12) #[.slice ua T.length uc] := At.one d2
    have hlT : T.length ≤ 1000000 := by have := hfx.2.2; omega
    clear d0 d1 d2
    have HD3 := Lib.hid d3
    have hlk : (P.gr.take k).length = k := by rw [List.length_take]; omega
    have hkm : k ≤ 1000000 := by have := hf.2.2.2.2.2.2.2.2.2; omega
    subst e1
    clear hat hfx hx d3
    obtain ⟨a0, a1, a2, a5, a6, c0, c1, c2, c5, c6, C, U, G, eC, eU, eG, hge, hC, hR, hSq⟩ := hO
    have hCl : G.length = k := by rw [← List.length_map (f := Prod.fst), eG, hlk]
    have hb60 : Since w2 wr.drew := (hSr).drew
    replace hC := hC.next ((Since.refl wr).drew)
    replace hR := hR.next ((Since.refl wr).drew)
    refine hx_begin (S := fun W => Since w2 W) (by kernel_rfl) hb60 (by kernel_rfl) (fun _ _ _ _ _ h => h) (fun hns hQ => ?_)
    refine hx_take (i := 0) (oi := _) (v := .pointer (some ⟨g, 6, none⟩)) rfl rfl hns (by kernel_rfl) (by kernel_rfl) hQ (by kernel_rfl) (fun _ _ => by kernel_rfl) hb60 ?_
    refine hx_take (i := 2) (oi := _) (v := .pointer (some ⟨w.heap.size, 6, none⟩)) rfl rfl hns (by kernel_rfl) (by kernel_rfl) hQ (by kernel_rfl) (fun _ _ => by kernel_rfl) hb60 ?_
    refine hx_take (i := 3) (oi := _) (v := .slice (some ⟨b, o, none⟩) ng cg) rfl rfl hns (by kernel_rfl) (by kernel_rfl) hQ (by kernel_rfl) (fun W hW => ld_one rfl (by kernel_rfl) (by kernel_rfl) W (pA.next hW 6 _ rfl)) hb60 ?_
    refine hx_take (i := 4) (oi := _) (v := .int .i64 (k : Int)) rfl rfl hns (by kernel_rfl) (by kernel_rfl) hQ (by kernel_rfl) (fun _ _ => by kernel_rfl) hb60 ?_
    refine hx_take (i := 5) (oi := _) (v := .pointer (some ⟨b, o + k * 13, none⟩)) rfl rfl hns (by kernel_rfl) (by kernel_rfl) hQ (by kernel_rfl) (fun W _ => ix_sl (n := ng) (c := cg) (K := 13) rfl (by kernel_rfl) (by kernel_rfl) (by kernel_rfl) rfl hlt W) hb60 ?_
    refine hx_take (i := 6) (oi := _) (v := .pointer (some ⟨b, o + k * 13, none⟩)) rfl rfl hns (by kernel_rfl) (by kernel_rfl) hQ (by kernel_rfl) (fun _ _ => by kernel_rfl) hb60 ?_
    refine hx_take (i := 7) (oi := _) (v := .string ⟨s.toArray⟩) rfl rfl hns (by kernel_rfl) (by kernel_rfl) hQ (by kernel_rfl) (fun W hW => ld_one rfl (by kernel_rfl) (by kernel_rfl) W (sA.next hW 0 _ rfl)) hb60 ?_
    refine hx_take (i := 8) (oi := _) (v := .pointer (some ⟨w.heap.size, 6, none⟩)) rfl rfl hns (by kernel_rfl) (by kernel_rfl) hQ (by kernel_rfl) (fun _ _ => by kernel_rfl) hb60 ?_
    refine hx_take (i := 9) (oi := _) (v := .slice (some ⟨b, o, none⟩) ng cg) rfl rfl hns (by kernel_rfl) (by kernel_rfl) hQ (by kernel_rfl) (fun W hW => ld_one rfl (by kernel_rfl) (by kernel_rfl) W (pA.next hW 6 _ rfl)) hb60 ?_
    refine hx_take (i := 10) (oi := _) (v := .int .i64 (k : Int)) rfl rfl hns (by kernel_rfl) (by kernel_rfl) hQ (by kernel_rfl) (fun _ _ => by kernel_rfl) hb60 ?_
    refine hx_take (i := 11) (oi := _) (v := .pointer (some ⟨b, o + k * 13, none⟩)) rfl rfl hns (by kernel_rfl) (by kernel_rfl) hQ (by kernel_rfl) (fun W _ => ix_sl (n := ng) (c := cg) (K := 13) rfl (by kernel_rfl) (by kernel_rfl) (by kernel_rfl) rfl hlt W) hb60 ?_
    refine hx_take (i := 12) (oi := _) (v := .pointer (some ⟨b, o + k * 13 + 1, none⟩)) rfl rfl hns (by kernel_rfl) (by kernel_rfl) hQ (by kernel_rfl) (fun _ _ => by kernel_rfl) hb60 ?_
    refine hx_take (i := 13) (oi := _) (v := .agg #[.string ⟨x_s.toArray⟩, .string ⟨x_p.toArray⟩, .int .i64 x_n, .bool x_v0, .string ⟨x_l0.toArray⟩, .bool x_v1, .string ⟨x_l1.toArray⟩, .bool x_v2, .string ⟨x_l2.toArray⟩, .bool x_v3, .string ⟨x_l3.toArray⟩]) rfl rfl hns (by kernel_rfl) (by kernel_rfl) hQ (by kernel_rfl) (fun W hW => ld_at rfl (by kernel_rfl) (by kernel_rfl) (by kernel_rfl) W (xA.next hW)) hb60 ?_
    refine hx_take (i := 14) (oi := _) (v := .pointer (some ⟨w.heap.size, 6, none⟩)) rfl rfl hns (by kernel_rfl) (by kernel_rfl) hQ (by kernel_rfl) (fun _ _ => by kernel_rfl) hb60 ?_
    refine hx_take (i := 15) (oi := _) (v := .slice (some ⟨b, o, none⟩) ng cg) rfl rfl hns (by kernel_rfl) (by kernel_rfl) hQ (by kernel_rfl) (fun W hW => ld_one rfl (by kernel_rfl) (by kernel_rfl) W (pA.next hW 6 _ rfl)) hb60 ?_
    refine hx_take (i := 16) (oi := _) (v := .int .i64 (k : Int)) rfl rfl hns (by kernel_rfl) (by kernel_rfl) hQ (by kernel_rfl) (fun _ _ => by kernel_rfl) hb60 ?_
    refine hx_take (i := 17) (oi := _) (v := .pointer (some ⟨b, o + k * 13, none⟩)) rfl rfl hns (by kernel_rfl) (by kernel_rfl) hQ (by kernel_rfl) (fun W _ => ix_sl (n := ng) (c := cg) (K := 13) rfl (by kernel_rfl) (by kernel_rfl) (by kernel_rfl) rfl hlt W) hb60 ?_
    refine hx_take (i := 18) (oi := _) (v := .pointer (some ⟨b, o + k * 13 + 12, none⟩)) rfl rfl hns (by kernel_rfl) (by kernel_rfl) hQ (by kernel_rfl) (fun _ _ => by kernel_rfl) hb60 ?_
    refine hx_take (i := 19) (oi := _) (v := .slice ua T.length uc) rfl rfl hns (by kernel_rfl) (by kernel_rfl) hQ (by kernel_rfl) (fun W hW => ld_one rfl (by kernel_rfl) (by kernel_rfl) W (uA.next hW 0 _ rfl)) hb60 ?_
    refine hx_two_vc (i := 1) (j := 20) (.slice a6 G.length c6) (wr.drew) 41 #[.slice ua T.length uc] rfl rfl (by kernel_rfl) (by kernel_rfl) (by kernel_rfl) rfl (ld_one rfl (by kernel_rfl) (by kernel_rfl) wr.drew (hC.cell 6)) hb60 rfl (by kernel_rfl) (own_atm _ T _ (anext HD3.out hb60) hlT) ?_ ?_
    · have hLT0 : ∀ p ∈ G, ∀ b, p.2.ownBlock = some b → b < wr.drew.heap.size := fun p hp b hb => ((hR.h6.ins p hp).lt b hb).2
      have hL00 : ∀ p ∈ U, ∀ b, p.2.ownBlock = some b → b < wr.drew.heap.size := fun p hp b hb => ((hR.h5.ins p hp).lt b hb).2
      refine hx_call (i := 20) (oi := _) 41 #[.slice ua T.length uc] rfl rfl (by kernel_rfl) (by kernel_rfl) (by kernel_rfl) (own_atm _ T _ (anext HD3.out hb60) hlT) ?_
      rintro e wx81 ⟨vx, rfl, hU, hb⟩
      have hb61 : Since w2 wx81 := hb60.trans hb
      replace hC := hC.next hb
      replace hR := hR.next hb
      have hBU : w2.heap.size ≤ wr.drew.heap.size := (hb60).size
      have hLT : ∀ p ∈ G, ∀ b, p.2.ownBlock = some b → b < wr.drew.heap.size := hLT0
      clear hLT0
      obtain ⟨ax, cx, rfl⟩ := own_slice hU
      have hAX : ∀ p ∈ U, apartV (.slice ax T.length cx) p.2 := fun p hp => apart_lt hU (hL00 p hp)
      clear hL00
      clear hb
      refine ⟨_, rfl, hb61, ?_⟩
      refine hx_take (i := 21) (oi := _) (v := .agg #[.string ⟨s.toArray⟩, .string ⟨x_s.toArray⟩, .string ⟨x_p.toArray⟩, .int .i64 x_n, .bool x_v0, .string ⟨x_l0.toArray⟩, .bool x_v1, .string ⟨x_l1.toArray⟩, .bool x_v2, .string ⟨x_l2.toArray⟩, .bool x_v3, .string ⟨x_l3.toArray⟩, .slice ax T.length cx]) rfl rfl hns (by kernel_rfl) (by kernel_rfl) hQ (by kernel_rfl) (fun _ _ => by kernel_rfl) hb61 ?_
      have hb62 : Since w2 (wx81.alloc (.cells #[.string ⟨s.toArray⟩, .string ⟨x_s.toArray⟩, .string ⟨x_p.toArray⟩, .int .i64 x_n, .bool x_v0, .string ⟨x_l0.toArray⟩, .bool x_v1, .string ⟨x_l1.toArray⟩, .bool x_v2, .string ⟨x_l2.toArray⟩, .bool x_v3, .string ⟨x_l3.toArray⟩, .slice ax T.length cx] 54)) := hb61.alloc _
      replace hC := hC.next ((Since.refl wx81).alloc (.cells #[.string ⟨s.toArray⟩, .string ⟨x_s.toArray⟩, .string ⟨x_p.toArray⟩, .int .i64 x_n, .bool x_v0, .string ⟨x_l0.toArray⟩, .bool x_v1, .string ⟨x_l1.toArray⟩, .bool x_v2, .string ⟨x_l2.toArray⟩, .bool x_v3, .string ⟨x_l3.toArray⟩, .slice ax T.length cx] 54))
      replace hR := hR.next ((Since.refl wx81).alloc (.cells #[.string ⟨s.toArray⟩, .string ⟨x_s.toArray⟩, .string ⟨x_p.toArray⟩, .int .i64 x_n, .bool x_v0, .string ⟨x_l0.toArray⟩, .bool x_v1, .string ⟨x_l1.toArray⟩, .bool x_v2, .string ⟨x_l2.toArray⟩, .bool x_v3, .string ⟨x_l3.toArray⟩, .slice ax T.length cx] 54))
      replace hU := own_since hU ((Since.refl wx81).alloc (.cells #[.string ⟨s.toArray⟩, .string ⟨x_s.toArray⟩, .string ⟨x_p.toArray⟩, .int .i64 x_n, .bool x_v0, .string ⟨x_l0.toArray⟩, .bool x_v1, .string ⟨x_l1.toArray⟩, .bool x_v2, .string ⟨x_l2.toArray⟩, .bool x_v3, .string ⟨x_l3.toArray⟩, .slice ax T.length cx] 54))
      refine hx_make (i := 22) (oi := _) (.slice (some ⟨wx81.heap.size, 0, none⟩) 1 1) (wx81.alloc (.cells #[.string ⟨s.toArray⟩, .string ⟨x_s.toArray⟩, .string ⟨x_p.toArray⟩, .int .i64 x_n, .bool x_v0, .string ⟨x_l0.toArray⟩, .bool x_v1, .string ⟨x_l1.toArray⟩, .bool x_v2, .string ⟨x_l2.toArray⟩, .bool x_v3, .string ⟨x_l3.toArray⟩, .slice ax T.length cx] 54)) rfl rfl (by kernel_rfl) (by kernel_rfl) (by kernel_rfl) hb62 ?_
      refine hx_append (i := 23) (oi := _) (.tmp 78) (.tmp 99) 26 w2.heap.size 54 i6 (.agg #[.string ByteArray.empty, .string ByteArray.empty, .string ByteArray.empty, .int .i64 0, .bool false, .string ByteArray.empty, .bool false, .string ByteArray.empty, .bool false, .string ByteArray.empty, .bool false, .string ByteArray.empty, .slice none 0 0]) 13 176 (.slice a6 G.length c6) G.length _ _ (some ⟨wx81.heap.size, 0, none⟩) 1 1 [.string ⟨s.toArray⟩, .string ⟨x_s.toArray⟩, .string ⟨x_p.toArray⟩, .int .i64 x_n, .bool x_v0, .string ⟨x_l0.toArray⟩, .bool x_v1, .string ⟨x_l1.toArray⟩, .bool x_v2, .string ⟨x_l2.toArray⟩, .bool x_v3, .string ⟨x_l3.toArray⟩, .slice ax T.length cx] rfl rfl (by kernel_rfl) (by kernel_rfl) rfl Tryd.underlying26 I6.out.1 I6.out.2.1 I6.out.2.2.1 I6.out.2.2.2 rfl (by decide) (by kernel_rfl) hR.h6.row (by kernel_rfl) (reads_new _ #[.string ⟨s.toArray⟩, .string ⟨x_s.toArray⟩, .string ⟨x_p.toArray⟩, .int .i64 x_n, .bool x_v0, .string ⟨x_l0.toArray⟩, .bool x_v1, .string ⟨x_l1.toArray⟩, .bool x_v2, .string ⟨x_l2.toArray⟩, .bool x_v3, .string ⟨x_l3.toArray⟩, .slice ax T.length cx] _ 13 rfl) (by simp [Value.oneCell']) (by unfold maxLen; omega) (by omega) (hb62).size ?_
      intro v4 w4 hown4 hg4 hb4
      have hb63 : Since w2 w4 := Below.grown hb62 hg4 (hb62).size (own_ge hR.h6.row)
      obtain ⟨a4, c4, rfl⟩ := own_slice hown4
      have hC4 := cel_own hC hR.h6.row (by decide) hg4
      have hR4 : OwnRows w4 w2.heap.size (.slice a0 P.pr.length c0) (.slice a1 P.pd.length c1) (.slice a2 C.length c2) (.slice a5 U.length c5) (.slice a4 (G.length + 1) c4) P.pr P.pd C U (G ++ [((s, ((x_s, x_p, x_n, (x_v0, x_l0), (x_v1, x_l1), (x_v2, x_l2), (x_v3, x_l3)) : Atm), T), .slice ax T.length cx)]) := ⟨own_other hR.h0 hR.h6.row (by decide) hg4, own_other hR.h1 hR.h6.row (by decide) hg4, hR.h2.own hR.h6.row hg4 (by decide) (by decide), hR.h5.own hR.h6.row hg4 (by decide) (by decide), hR.h6.push (x := (s, ((x_s, x_p, x_n, (x_v0, x_l0), (x_v1, x_l1), (x_v2, x_l2), (x_v3, x_l3)) : Atm), T)) hLT hU hBU hown4 rfl hg4 (by decide), hR.h02, (fun q hq p hp => by rcases List.mem_append.1 hq with h | h; exact hR.h56 q h p hp; obtain rfl := List.mem_singleton.1 h; exact hAX p hp)⟩
      clear hC hR hU hown4 hg4 hb4 hLT
      refine ⟨hb63, ?_⟩
      refine hx_take (i := 24) (oi := _) (v := .pointer (some ⟨g, 6, none⟩)) rfl rfl hns (by kernel_rfl) (by kernel_rfl) hQ (by kernel_rfl) (fun _ _ => by kernel_rfl) hb63 ?_
      have hb64 : Since w2 (w4.setCell ⟨g, 6, none⟩ (.slice a4 (G.length + 1) c4)) := hb63.setCell hge _
      refine hx_store (i := 25) (oi := _) (w4.setCell ⟨g, 6, none⟩ (.slice a4 (G.length + 1) c4)) rfl rfl (by kernel_rfl) (by kernel_rfl) (st_grn rfl (by kernel_rfl) (by kernel_rfl) _ hC4 rfl) hb64 ?_
      replace hR4 := hR4.cel hC4 (grown_setCell w4 g 6 (.slice a4 (G.length + 1) c4))
      replace hC4 := hC4.set (j := 6) (u := .slice a4 (G.length + 1) c4) rfl
      refine wpAnyH_done (by kernel_rfl) ?_ _
      clear hns hQ
      simp only [List.set_cons_zero, List.set_cons_succ]
      have eX : (G ++ [((s, ((x_s, x_p, x_n, (x_v0, x_l0), (x_v1, x_l1), (x_v2, x_l2), (x_v3, x_l3)) : Atm), T), Value.slice ax T.length cx)]).map Prod.fst = P.gr.take (k + 1) := by rw [List.map_append, eG, ← htk.out]; rfl
      have hl1 : (G ++ [((s, ((x_s, x_p, x_n, (x_v0, x_l0), (x_v1, x_l1), (x_v2, x_l2), (x_v3, x_l3)) : Atm), T), Value.slice ax T.length cx)]).length = G.length + 1 := by simp
      rw [← hl1] at hR4 hC4
      have hOP : OPol w2 (w4.setCell ⟨g, 6, none⟩ (.slice a4 (G ++ [((s, ((x_s, x_p, x_n, (x_v0, x_l0), (x_v1, x_l1), (x_v2, x_l2), (x_v3, x_l3)) : Atm), T), Value.slice ax T.length cx)]).length c4)) g qu bu P.pr P.pd P.cl P.ru (P.gr.take (k + 1)) := ⟨a0, a1, a2, a5, a4, c0, c1, c2, c5, c4, C, U, _, eC, eU, eX, hge, hC4, hR4, by rw [hl1]; exact hb64⟩
      rw [hl1, hCl] at hOP
      clear hC4 hR4 eX
      go_wp2_with fail
      go_roundw
      case rel => exact ⟨k + 1, by omega, by go_num, hOP⟩
      case measure => simp [intOf]; omega
    · have hLT0 : ∀ p ∈ G, ∀ b, p.2.ownBlock = some b → b < wr.drew.heap.size := fun p hp b hb => ((hR.h6.ins p hp).lt b hb).2
      have hL00 : ∀ p ∈ U, ∀ b, p.2.ownBlock = some b → b < wr.drew.heap.size := fun p hp b hb => ((hR.h5.ins p hp).lt b hb).2
      rintro e wx81 ⟨vx, rfl, hU, hb⟩
      have hb61 : Since w2 wx81 := hb60.trans hb
      replace hC := hC.next hb
      replace hR := hR.next hb
      have hBU : w2.heap.size ≤ wr.drew.heap.size := (hb60).size
      have hLT : ∀ p ∈ G, ∀ b, p.2.ownBlock = some b → b < wr.drew.heap.size := hLT0
      clear hLT0
      obtain ⟨ax, cx, rfl⟩ := own_slice hU
      have hAX : ∀ p ∈ U, apartV (.slice ax T.length cx) p.2 := fun p hp => apart_lt hU (hL00 p hp)
      clear hL00
      clear hb
      refine ⟨_, rfl, hb61, ?_⟩
      refine hx_take (i := 21) (oi := _) (v := .agg #[.string ⟨s.toArray⟩, .string ⟨x_s.toArray⟩, .string ⟨x_p.toArray⟩, .int .i64 x_n, .bool x_v0, .string ⟨x_l0.toArray⟩, .bool x_v1, .string ⟨x_l1.toArray⟩, .bool x_v2, .string ⟨x_l2.toArray⟩, .bool x_v3, .string ⟨x_l3.toArray⟩, .slice ax T.length cx]) rfl rfl hns (by kernel_rfl) (by kernel_rfl) hQ (by kernel_rfl) (fun _ _ => by kernel_rfl) hb61 ?_
      refine hx_two_vv (i := 1) (j := 22) (.slice a6 G.length c6) (wx81) (.slice (some ⟨wx81.heap.size, 0, none⟩) 1 1) ((wx81.alloc (.cells #[.string ⟨s.toArray⟩, .string ⟨x_s.toArray⟩, .string ⟨x_p.toArray⟩, .int .i64 x_n, .bool x_v0, .string ⟨x_l0.toArray⟩, .bool x_v1, .string ⟨x_l1.toArray⟩, .bool x_v2, .string ⟨x_l2.toArray⟩, .bool x_v3, .string ⟨x_l3.toArray⟩, .slice ax T.length cx] 54))) rfl rfl (by kernel_rfl) (by kernel_rfl) (by kernel_rfl) rfl (ld_one rfl (by kernel_rfl) (by kernel_rfl) wx81 (hC.cell 6)) hb61 rfl (by kernel_rfl) (hb61.alloc _) ?_ ?_
      · have hb62 : Since w2 (wx81.alloc (.cells #[.string ⟨s.toArray⟩, .string ⟨x_s.toArray⟩, .string ⟨x_p.toArray⟩, .int .i64 x_n, .bool x_v0, .string ⟨x_l0.toArray⟩, .bool x_v1, .string ⟨x_l1.toArray⟩, .bool x_v2, .string ⟨x_l2.toArray⟩, .bool x_v3, .string ⟨x_l3.toArray⟩, .slice ax T.length cx] 54)) := hb61.alloc _
        replace hC := hC.next ((Since.refl wx81).alloc (.cells #[.string ⟨s.toArray⟩, .string ⟨x_s.toArray⟩, .string ⟨x_p.toArray⟩, .int .i64 x_n, .bool x_v0, .string ⟨x_l0.toArray⟩, .bool x_v1, .string ⟨x_l1.toArray⟩, .bool x_v2, .string ⟨x_l2.toArray⟩, .bool x_v3, .string ⟨x_l3.toArray⟩, .slice ax T.length cx] 54))
        replace hR := hR.next ((Since.refl wx81).alloc (.cells #[.string ⟨s.toArray⟩, .string ⟨x_s.toArray⟩, .string ⟨x_p.toArray⟩, .int .i64 x_n, .bool x_v0, .string ⟨x_l0.toArray⟩, .bool x_v1, .string ⟨x_l1.toArray⟩, .bool x_v2, .string ⟨x_l2.toArray⟩, .bool x_v3, .string ⟨x_l3.toArray⟩, .slice ax T.length cx] 54))
        replace hU := own_since hU ((Since.refl wx81).alloc (.cells #[.string ⟨s.toArray⟩, .string ⟨x_s.toArray⟩, .string ⟨x_p.toArray⟩, .int .i64 x_n, .bool x_v0, .string ⟨x_l0.toArray⟩, .bool x_v1, .string ⟨x_l1.toArray⟩, .bool x_v2, .string ⟨x_l2.toArray⟩, .bool x_v3, .string ⟨x_l3.toArray⟩, .slice ax T.length cx] 54))
        refine hx_make (i := 22) (oi := _) (.slice (some ⟨wx81.heap.size, 0, none⟩) 1 1) (wx81.alloc (.cells #[.string ⟨s.toArray⟩, .string ⟨x_s.toArray⟩, .string ⟨x_p.toArray⟩, .int .i64 x_n, .bool x_v0, .string ⟨x_l0.toArray⟩, .bool x_v1, .string ⟨x_l1.toArray⟩, .bool x_v2, .string ⟨x_l2.toArray⟩, .bool x_v3, .string ⟨x_l3.toArray⟩, .slice ax T.length cx] 54)) rfl rfl (by kernel_rfl) (by kernel_rfl) (by kernel_rfl) hb62 ?_
        refine hx_append (i := 23) (oi := _) (.tmp 78) (.tmp 99) 26 w2.heap.size 54 i6 (.agg #[.string ByteArray.empty, .string ByteArray.empty, .string ByteArray.empty, .int .i64 0, .bool false, .string ByteArray.empty, .bool false, .string ByteArray.empty, .bool false, .string ByteArray.empty, .bool false, .string ByteArray.empty, .slice none 0 0]) 13 176 (.slice a6 G.length c6) G.length _ _ (some ⟨wx81.heap.size, 0, none⟩) 1 1 [.string ⟨s.toArray⟩, .string ⟨x_s.toArray⟩, .string ⟨x_p.toArray⟩, .int .i64 x_n, .bool x_v0, .string ⟨x_l0.toArray⟩, .bool x_v1, .string ⟨x_l1.toArray⟩, .bool x_v2, .string ⟨x_l2.toArray⟩, .bool x_v3, .string ⟨x_l3.toArray⟩, .slice ax T.length cx] rfl rfl (by kernel_rfl) (by kernel_rfl) rfl Tryd.underlying26 I6.out.1 I6.out.2.1 I6.out.2.2.1 I6.out.2.2.2 rfl (by decide) (by kernel_rfl) hR.h6.row (by kernel_rfl) (reads_new _ #[.string ⟨s.toArray⟩, .string ⟨x_s.toArray⟩, .string ⟨x_p.toArray⟩, .int .i64 x_n, .bool x_v0, .string ⟨x_l0.toArray⟩, .bool x_v1, .string ⟨x_l1.toArray⟩, .bool x_v2, .string ⟨x_l2.toArray⟩, .bool x_v3, .string ⟨x_l3.toArray⟩, .slice ax T.length cx] _ 13 rfl) (by simp [Value.oneCell']) (by unfold maxLen; omega) (by omega) (hb62).size ?_
        intro v4 w4 hown4 hg4 hb4
        have hb63 : Since w2 w4 := Below.grown hb62 hg4 (hb62).size (own_ge hR.h6.row)
        obtain ⟨a4, c4, rfl⟩ := own_slice hown4
        have hC4 := cel_own hC hR.h6.row (by decide) hg4
        have hR4 : OwnRows w4 w2.heap.size (.slice a0 P.pr.length c0) (.slice a1 P.pd.length c1) (.slice a2 C.length c2) (.slice a5 U.length c5) (.slice a4 (G.length + 1) c4) P.pr P.pd C U (G ++ [((s, ((x_s, x_p, x_n, (x_v0, x_l0), (x_v1, x_l1), (x_v2, x_l2), (x_v3, x_l3)) : Atm), T), .slice ax T.length cx)]) := ⟨own_other hR.h0 hR.h6.row (by decide) hg4, own_other hR.h1 hR.h6.row (by decide) hg4, hR.h2.own hR.h6.row hg4 (by decide) (by decide), hR.h5.own hR.h6.row hg4 (by decide) (by decide), hR.h6.push (x := (s, ((x_s, x_p, x_n, (x_v0, x_l0), (x_v1, x_l1), (x_v2, x_l2), (x_v3, x_l3)) : Atm), T)) hLT hU hBU hown4 rfl hg4 (by decide), hR.h02, (fun q hq p hp => by rcases List.mem_append.1 hq with h | h; exact hR.h56 q h p hp; obtain rfl := List.mem_singleton.1 h; exact hAX p hp)⟩
        clear hC hR hU hown4 hg4 hb4 hLT
        refine ⟨hb63, ?_⟩
        refine hx_take (i := 24) (oi := _) (v := .pointer (some ⟨g, 6, none⟩)) rfl rfl hns (by kernel_rfl) (by kernel_rfl) hQ (by kernel_rfl) (fun _ _ => by kernel_rfl) hb63 ?_
        have hb64 : Since w2 (w4.setCell ⟨g, 6, none⟩ (.slice a4 (G.length + 1) c4)) := hb63.setCell hge _
        refine hx_store (i := 25) (oi := _) (w4.setCell ⟨g, 6, none⟩ (.slice a4 (G.length + 1) c4)) rfl rfl (by kernel_rfl) (by kernel_rfl) (st_grn rfl (by kernel_rfl) (by kernel_rfl) _ hC4 rfl) hb64 ?_
        replace hR4 := hR4.cel hC4 (grown_setCell w4 g 6 (.slice a4 (G.length + 1) c4))
        replace hC4 := hC4.set (j := 6) (u := .slice a4 (G.length + 1) c4) rfl
        refine wpAnyH_done (by kernel_rfl) ?_ _
        clear hns hQ
        simp only [List.set_cons_zero, List.set_cons_succ]
        have eX : (G ++ [((s, ((x_s, x_p, x_n, (x_v0, x_l0), (x_v1, x_l1), (x_v2, x_l2), (x_v3, x_l3)) : Atm), T), Value.slice ax T.length cx)]).map Prod.fst = P.gr.take (k + 1) := by rw [List.map_append, eG, ← htk.out]; rfl
        have hl1 : (G ++ [((s, ((x_s, x_p, x_n, (x_v0, x_l0), (x_v1, x_l1), (x_v2, x_l2), (x_v3, x_l3)) : Atm), T), Value.slice ax T.length cx)]).length = G.length + 1 := by simp
        rw [← hl1] at hR4 hC4
        have hOP : OPol w2 (w4.setCell ⟨g, 6, none⟩ (.slice a4 (G ++ [((s, ((x_s, x_p, x_n, (x_v0, x_l0), (x_v1, x_l1), (x_v2, x_l2), (x_v3, x_l3)) : Atm), T), Value.slice ax T.length cx)]).length c4)) g qu bu P.pr P.pd P.cl P.ru (P.gr.take (k + 1)) := ⟨a0, a1, a2, a5, a4, c0, c1, c2, c5, c4, C, U, _, eC, eU, eX, hge, hC4, hR4, by rw [hl1]; exact hb64⟩
        rw [hl1, hCl] at hOP
        clear hC4 hR4 eX
        go_wp2_with fail
        go_roundw
        case rel => exact ⟨k + 1, by omega, by go_num, hOP⟩
        case measure => simp [intOf]; omega
      · have hb62 : Since w2 (wx81.alloc (.cells #[.string ⟨s.toArray⟩, .string ⟨x_s.toArray⟩, .string ⟨x_p.toArray⟩, .int .i64 x_n, .bool x_v0, .string ⟨x_l0.toArray⟩, .bool x_v1, .string ⟨x_l1.toArray⟩, .bool x_v2, .string ⟨x_l2.toArray⟩, .bool x_v3, .string ⟨x_l3.toArray⟩, .slice ax T.length cx] 54)) := hb61.alloc _
        replace hC := hC.next ((Since.refl wx81).alloc (.cells #[.string ⟨s.toArray⟩, .string ⟨x_s.toArray⟩, .string ⟨x_p.toArray⟩, .int .i64 x_n, .bool x_v0, .string ⟨x_l0.toArray⟩, .bool x_v1, .string ⟨x_l1.toArray⟩, .bool x_v2, .string ⟨x_l2.toArray⟩, .bool x_v3, .string ⟨x_l3.toArray⟩, .slice ax T.length cx] 54))
        replace hR := hR.next ((Since.refl wx81).alloc (.cells #[.string ⟨s.toArray⟩, .string ⟨x_s.toArray⟩, .string ⟨x_p.toArray⟩, .int .i64 x_n, .bool x_v0, .string ⟨x_l0.toArray⟩, .bool x_v1, .string ⟨x_l1.toArray⟩, .bool x_v2, .string ⟨x_l2.toArray⟩, .bool x_v3, .string ⟨x_l3.toArray⟩, .slice ax T.length cx] 54))
        replace hU := own_since hU ((Since.refl wx81).alloc (.cells #[.string ⟨s.toArray⟩, .string ⟨x_s.toArray⟩, .string ⟨x_p.toArray⟩, .int .i64 x_n, .bool x_v0, .string ⟨x_l0.toArray⟩, .bool x_v1, .string ⟨x_l1.toArray⟩, .bool x_v2, .string ⟨x_l2.toArray⟩, .bool x_v3, .string ⟨x_l3.toArray⟩, .slice ax T.length cx] 54))
        refine hx_make (i := 1) (oi := _) (.slice a6 G.length c6) ((wx81.alloc (.cells #[.string ⟨s.toArray⟩, .string ⟨x_s.toArray⟩, .string ⟨x_p.toArray⟩, .int .i64 x_n, .bool x_v0, .string ⟨x_l0.toArray⟩, .bool x_v1, .string ⟨x_l1.toArray⟩, .bool x_v2, .string ⟨x_l2.toArray⟩, .bool x_v3, .string ⟨x_l3.toArray⟩, .slice ax T.length cx] 54))) rfl rfl (by kernel_rfl) (by kernel_rfl) (ld_one rfl (by kernel_rfl) (by kernel_rfl) (wx81.alloc (.cells #[.string ⟨s.toArray⟩, .string ⟨x_s.toArray⟩, .string ⟨x_p.toArray⟩, .int .i64 x_n, .bool x_v0, .string ⟨x_l0.toArray⟩, .bool x_v1, .string ⟨x_l1.toArray⟩, .bool x_v2, .string ⟨x_l2.toArray⟩, .bool x_v3, .string ⟨x_l3.toArray⟩, .slice ax T.length cx] 54)) (hC.cell 6)) hb62 ?_
        refine hx_append (i := 23) (oi := _) (.tmp 78) (.tmp 99) 26 w2.heap.size 54 i6 (.agg #[.string ByteArray.empty, .string ByteArray.empty, .string ByteArray.empty, .int .i64 0, .bool false, .string ByteArray.empty, .bool false, .string ByteArray.empty, .bool false, .string ByteArray.empty, .bool false, .string ByteArray.empty, .slice none 0 0]) 13 176 (.slice a6 G.length c6) G.length _ _ (some ⟨wx81.heap.size, 0, none⟩) 1 1 [.string ⟨s.toArray⟩, .string ⟨x_s.toArray⟩, .string ⟨x_p.toArray⟩, .int .i64 x_n, .bool x_v0, .string ⟨x_l0.toArray⟩, .bool x_v1, .string ⟨x_l1.toArray⟩, .bool x_v2, .string ⟨x_l2.toArray⟩, .bool x_v3, .string ⟨x_l3.toArray⟩, .slice ax T.length cx] rfl rfl (by kernel_rfl) (by kernel_rfl) rfl Tryd.underlying26 I6.out.1 I6.out.2.1 I6.out.2.2.1 I6.out.2.2.2 rfl (by decide) (by kernel_rfl) hR.h6.row (by kernel_rfl) (reads_new _ #[.string ⟨s.toArray⟩, .string ⟨x_s.toArray⟩, .string ⟨x_p.toArray⟩, .int .i64 x_n, .bool x_v0, .string ⟨x_l0.toArray⟩, .bool x_v1, .string ⟨x_l1.toArray⟩, .bool x_v2, .string ⟨x_l2.toArray⟩, .bool x_v3, .string ⟨x_l3.toArray⟩, .slice ax T.length cx] _ 13 rfl) (by simp [Value.oneCell']) (by unfold maxLen; omega) (by omega) (hb62).size ?_
        intro v4 w4 hown4 hg4 hb4
        have hb63 : Since w2 w4 := Below.grown hb62 hg4 (hb62).size (own_ge hR.h6.row)
        obtain ⟨a4, c4, rfl⟩ := own_slice hown4
        have hC4 := cel_own hC hR.h6.row (by decide) hg4
        have hR4 : OwnRows w4 w2.heap.size (.slice a0 P.pr.length c0) (.slice a1 P.pd.length c1) (.slice a2 C.length c2) (.slice a5 U.length c5) (.slice a4 (G.length + 1) c4) P.pr P.pd C U (G ++ [((s, ((x_s, x_p, x_n, (x_v0, x_l0), (x_v1, x_l1), (x_v2, x_l2), (x_v3, x_l3)) : Atm), T), .slice ax T.length cx)]) := ⟨own_other hR.h0 hR.h6.row (by decide) hg4, own_other hR.h1 hR.h6.row (by decide) hg4, hR.h2.own hR.h6.row hg4 (by decide) (by decide), hR.h5.own hR.h6.row hg4 (by decide) (by decide), hR.h6.push (x := (s, ((x_s, x_p, x_n, (x_v0, x_l0), (x_v1, x_l1), (x_v2, x_l2), (x_v3, x_l3)) : Atm), T)) hLT hU hBU hown4 rfl hg4 (by decide), hR.h02, (fun q hq p hp => by rcases List.mem_append.1 hq with h | h; exact hR.h56 q h p hp; obtain rfl := List.mem_singleton.1 h; exact hAX p hp)⟩
        clear hC hR hU hown4 hg4 hb4 hLT
        refine ⟨hb63, ?_⟩
        refine hx_take (i := 24) (oi := _) (v := .pointer (some ⟨g, 6, none⟩)) rfl rfl hns (by kernel_rfl) (by kernel_rfl) hQ (by kernel_rfl) (fun _ _ => by kernel_rfl) hb63 ?_
        have hb64 : Since w2 (w4.setCell ⟨g, 6, none⟩ (.slice a4 (G.length + 1) c4)) := hb63.setCell hge _
        refine hx_store (i := 25) (oi := _) (w4.setCell ⟨g, 6, none⟩ (.slice a4 (G.length + 1) c4)) rfl rfl (by kernel_rfl) (by kernel_rfl) (st_grn rfl (by kernel_rfl) (by kernel_rfl) _ hC4 rfl) hb64 ?_
        replace hR4 := hR4.cel hC4 (grown_setCell w4 g 6 (.slice a4 (G.length + 1) c4))
        replace hC4 := hC4.set (j := 6) (u := .slice a4 (G.length + 1) c4) rfl
        refine wpAnyH_done (by kernel_rfl) ?_ _
        clear hns hQ
        simp only [List.set_cons_zero, List.set_cons_succ]
        have eX : (G ++ [((s, ((x_s, x_p, x_n, (x_v0, x_l0), (x_v1, x_l1), (x_v2, x_l2), (x_v3, x_l3)) : Atm), T), Value.slice ax T.length cx)]).map Prod.fst = P.gr.take (k + 1) := by rw [List.map_append, eG, ← htk.out]; rfl
        have hl1 : (G ++ [((s, ((x_s, x_p, x_n, (x_v0, x_l0), (x_v1, x_l1), (x_v2, x_l2), (x_v3, x_l3)) : Atm), T), Value.slice ax T.length cx)]).length = G.length + 1 := by simp
        rw [← hl1] at hR4 hC4
        have hOP : OPol w2 (w4.setCell ⟨g, 6, none⟩ (.slice a4 (G ++ [((s, ((x_s, x_p, x_n, (x_v0, x_l0), (x_v1, x_l1), (x_v2, x_l2), (x_v3, x_l3)) : Atm), T), Value.slice ax T.length cx)]).length c4)) g qu bu P.pr P.pd P.cl P.ru (P.gr.take (k + 1)) := ⟨a0, a1, a2, a5, a4, c0, c1, c2, c5, c4, C, U, _, eC, eU, eX, hge, hC4, hR4, by rw [hl1]; exact hb64⟩
        rw [hl1, hCl] at hOP
        clear hC4 hR4 eX
        go_wp2_with fail
        go_roundw
        case rel => exact ⟨k + 1, by omega, by go_num, hOP⟩
        case measure => simp [intOf]; omega
  have hlt2 : ¬ (k : Int) < (ng : Int) := by omega
  rw [List.take_of_length_le (by have := HPOL.out.2.2.2.2.2.2.form; omega)] at hO
  obtain ⟨a0, a1, a2, a5, a6, c0, c1, c2, c5, c6, C, U, G, eC, eU, eG, hge, hC, hR, hSq⟩ := hO
  have hRes2 := hRes.next hSr
  have hne : w.heap.size + 1 ≠ g := by omega
  have hone : Hid (((#[.slice a0 P.pr.length c0, .slice a1 P.pd.length c1, .slice a2 C.length c2, .int .i64 qu, .int .i64 bu, .slice a5 U.length c5, .slice a6 G.length c6] : Array Value).all (·.oneCell')) = true) := by show _ = _; simp [Value.oneCell']
  have q0 := hC.cell 0
  have q1 := hC.cell 1
  have q2 := hC.cell 2
  have q3 := hC.cell 3
  have q4 := hC.cell 4
  have q5 := hC.cell 5
  have q6 := hC.cell 6
  go_wp2_with (refine wpList_store_row rfl 28 (.tmp 2) (.tmp 102) rfl (w.heap.size + 1) #[.slice a0 P.pr.length c0, .slice a1 P.pd.length c1, .slice a2 C.length c2, .int .i64 qu, .int .i64 bu, .slice a5 U.length c5, .slice a6 G.length c6] rfl rfl 28 #[.slice none 0 0, .slice none 0 0, .slice none 0 0, .int .i64 0, .int .i64 0, .slice none 0 0, .slice none 0 0] hRes2 polInfo rfl hone.out ?_)
  obtain ⟨r0, r1, r2, r3, r4, r5, r6⟩ : PBox (wr.setRow (w.heap.size + 1) #[.slice a0 P.pr.length c0, .slice a1 P.pd.length c1, .slice a2 C.length c2, .int .i64 qu, .int .i64 bu, .slice a5 U.length c5, .slice a6 G.length c6]) (w.heap.size + 1) a0 a1 a2 a5 a6 P.pr.length c0 P.pd.length c1 C.length c2 U.length c5 G.length c6 qu bu := ⟨(hRes2.row _).cell 0, (hRes2.row _).cell 1, (hRes2.row _).cell 2, (hRes2.row _).cell 3, (hRes2.row _).cell 4, (hRes2.row _).cell 5, (hRes2.row _).cell 6⟩
  have hRf := hR.cel hRes2 (grown_setRow wr (w.heap.size + 1) #[.slice a0 P.pr.length c0, .slice a1 P.pd.length c1, .slice a2 C.length c2, .int .i64 qu, .int .i64 bu, .slice a5 U.length c5, .slice a6 G.length c6])
  have hSf : Since w (wr.setRow (w.heap.size + 1) #[.slice a0 P.pr.length c0, .slice a1 P.pd.length c1, .slice a2 C.length c2, .int .i64 qu, .int .i64 bu, .slice a5 U.length c5, .slice a6 G.length c6]) := since_setRow (hS0.trans hSq) (Nat.le_succ _) _
  clear q0 q1 q2 q3 q4 q5 q6 hRes2 hone hC hR
  refine bodyPost_ret (v := .agg #[.slice a0 P.pr.length c0, .slice a1 P.pd.length c1, .slice a2 C.length c2, .int .i64 qu, .int .i64 bu, .slice a5 U.length c5, .slice a6 G.length c6]) (by simp [results, Tryd.results13, go_sem, r0, r1, r2, r3, r4, r5, r6]) rfl ⟨a0, a1, a2, a5, a6, c0, c1, c2, c5, c6, C, U, G, eC, eU, eG, rfl, ?_, hSf⟩
  exact ⟨own_base hRf.h0 (by omega), own_base hRf.h1 (by omega), hRf.h2.base (by omega), hRf.h5.base (by omega), hRf.h6.base (by omega), hRf.h02, hRf.h56⟩
end Go.Proofs.YtpkggopaigledaaDoor
