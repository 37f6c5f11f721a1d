/- The parser: what someone says. The parser: an atom. Drawn regions: two operations of which either may come first; appends; calls that panic. The parser: a body's list grows. The parser: body's closure. The parser: a body. -/
import Derived.Test.YtnfjjckbgnieeaaGreatDoorVParA
import Derived.Test.YtnfjjckbgnieeaaGreatDoorVHeldM
import Derived.Deep.MidRow
namespace Go.Proofs.YtnfjjckbgnieeaaGreatDoor
open Go.RowKit

/-- What said's closure works on: the parser's variable, the atom's box. -/
def SaidI (g pb ab : Nat) (a : Atm) (W : World) : Prop := Cel W pb #[.pointer (some ⟨g, 0, none⟩)] 80 ∧ Cel W ab (atmC a) 44 ∧ 0 ≤ a.2.2.1 ∧ a.2.2.1 ≤ 4
theorem st_term {o : Oper} {x y : Operand} {ev : Operand → Value} {g k : Nat} {cells : Array Value} (ho : o.op = Op.store 41 x y) (hx : ev x = .pointer (some ⟨g, k, none⟩)) (hy : ev y = .agg cells) (W : World) (ht : W.there g k cells.size) (hs : cells.size = 2) (h1 : cells.all (·.oneCell') = true) :
    (execOp ev o).run Tryz.prog W = .ok .skip (W.setCells g k cells.toList) := by
  have h := run_storeAt_mid (P := Tryz.prog) W g k 41 cells ht (by rw [hs]; kernel_rfl) h1
  simp only [execOp, ho, hx, hy, Sem.run_bind, h]
  rfl
theorem ainfoC : (Tryz.prog.info? 44).map (·.size) = some 11 := by kernel_rfl
theorem cel_there {W : World} {g : Nat} {cs : Array Value} {T : TypeId} (h : Cel W g cs T) {k m : Nat} (hk : k + m ≤ cs.size) : W.there g k m := fun j hj =>
  ⟨by rw [h.cell, Array.getElem?_eq_getElem (by omega)]; rfl, h.free _⟩
theorem only_sets (W : World) (g k : Nat) (vs : List Value) : Keep (fun b => b = g) W (W.setCells g k vs) := by
  induction vs generalizing k W with
  | nil => exact Keep.refl _ _
  | cons v r ih =>
    have h1 : Keep (fun b => b = g) W (W.setCell ⟨g, k, none⟩ v) := Keep.of_grown (grown_setCell W g k v) fun b hb => by injection hb with hb; exact hb.symm
    exact h1.trans (ih _ (k + 1)) fun _ hx => .inl hx
section
variable {w0 w w' : World} {g : Nat} {lv : Value} {L : List Tk} {n : Nat} {r r' : Toks} {c3 c4 c5 c6 c7 c8 c9 c10 : Value}
theorem pfail_back (er : Int) {r1 : Toks} (h : Prs w0 w g lv L n r1 c3 c4 c5 c6 c7 c8 c9 c10) (hs : ∃ p, txtsK L = p ++ r) :
    Calls Tryz.prog 74 #[.pointer (some ⟨g, 0, none⟩), .int .i64 ((L.length - r.length : Nat) : Int), .int .i64 er] w fun e w' => e = .panicked [FlawE (placeK L n r.length) er] ∧ Since w w' := by
  obtain ⟨p, hp⟩ := hs
  rw [← place_of hp]
  exact pfail_at _ er w h.par
end
theorem prs_z {w0 W W' : World} {g ab : Nat} {lv : Value} {L : List Tk} {n : Nat} {r : Toks} {c3 c4 c5 c6 c7 c8 c9 c10 : Value} {cs : Array Value} (h : Prs w0 W g lv L n r c3 c4 c5 c6 c7 c8 c9 c10) (hne : ¬ ab = g) (hlo : w0.heap.size ≤ ab) (hc : Cel W ab cs 44) (hk : Keep (fun b => b = ab) W W') : Prs w0 W' g lv L n r c3 c4 c5 c6 c7 c8 c9 c10 :=
  ⟨h.par.keep hk (fun e => hne e.symm) (fun b hb e => cel_own_ne hc h.par.row (by decide) (by rw [hb, e])), hk.since h.sin (fun x hx => by rw [hx]; exact hlo), h.low, h.env, h.fit⟩
set_option maxHeartbeats 4000000 in
set_option maxRecDepth 100000 in
theorem psaid1_any {w0 : World} {g : Nat} {lv : Value} {L : List Tk} {n : Nat} {c3 c4 c5 c6 c7 c8 c9 c10 : Value} (pb ab D : Nat) (hlo : w0.heap.size ≤ D) (hab : D ≤ ab) (a_s a_p : List UInt8) (a_n : Int) (a_v0 a_v1 a_v2 a_v3 : Bool) (a_l0 a_l1 a_l2 a_l3 : List UInt8) (r : Toks) (w : World) (h : Prs w0 w g lv L n r c3 c4 c5 c6 c7 c8 c9 c10) (hI : SaidI g pb ab ((a_s, a_p, a_n, (a_v0, a_l0), (a_v1, a_l1), (a_v2, a_l2), (a_v3, a_l3)) : Atm) w) :
    Calls Tryz.prog 110 #[.pointer (some ⟨pb, 0, none⟩), .pointer (some ⟨ab, 0, none⟩)] w (EachOut w0 w g lv L n c3 c4 c5 c6 c7 c8 c9 c10 D (fun a _ W => SaidI g pb ab a W) (termStep ((a_s, a_p, a_n, (a_v0, a_l0), (a_v1, a_l1), (a_v2, a_l2), (a_v3, a_l3)) : Atm) r)) := by
  obtain ⟨hP, hA, hn0, hn4⟩ := hI
  have hn0 : 0 ≤ a_n := hn0
  have hn4 : a_n ≤ 4 := hn4
  have HNM := Lib.hid (pterm_here h)
  obtain ⟨i, hi⟩ : ∃ i, Hid (i = L.length - r.length) := ⟨_, rfl⟩
  have g1 : w.cell? ⟨g, 1, none⟩ = some (.int .i64 (i : Int)) := by rw [hi.out]; exact h.par.cel.cell 1
  have p0 : w.cell? ⟨pb, 0, none⟩ = some (.pointer (some ⟨g, 0, none⟩)) := hP.cell 0
  have hpg : ¬ pb = g := cel_cel_ne hP h.par.cel (by decide)
  have hag : ¬ ab = g := cel_cel_ne hA h.par.cel (by decide)
  have hap : ¬ pb = ab := cel_cel_ne hP hA (by decide)
  have HH := Lib.hid h
  cases hnm : nameT termT r with
  | error x =>
    obtain ⟨k, er⟩ := x
    rw [hnm] at HNM
    have hr : Hid (termStep ((a_s, a_p, a_n, (a_v0, a_l0), (a_v1, a_l1), (a_v2, a_l2), (a_v3, a_l3)) : Atm) r = .error (k, er)) := by show _ = _; rw [termStep, hnm]
    rw [hr.out]
    have HN2 : Hid (Calls Tryz.prog 83 #[.pointer (some ⟨g, 0, none⟩), .func (.func 111) #[] #[]] w fun e w' => e = .panicked [FlawE (placeK L n k) er] ∧ OnlyG g w w') := HNM.out
    clear HNM hr hnm h hP hA HH hi hpg hag hap
    go_enter Tryz.func110, Tryz.ntmps110
    go_wp2_with fail
    refine HN2.out.mono ?_
    rintro e w2 ⟨rfl, hk⟩
    go_wp2_with fail
    exact ⟨rfl, rfl, hk.z⟩
  | ok x =>
    obtain ⟨t, r1⟩ := x
    rw [hnm] at HNM
    have HN2 : Hid (Calls Tryz.prog 83 #[.pointer (some ⟨g, 0, none⟩), .func (.func 111) #[] #[]] w fun e w' => e = .returned (.string ⟨t.toArray⟩) ∧ Prs w0 w' g lv L n r1 c3 c4 c5 c6 c7 c8 c9 c10 ∧ OnlyG g w w') := HNM.out
    have htl : t.length ≤ maxLen := by
      have h1 := h.fits t (by rw [(nameT_ok hnm).1]; exact List.mem_cons_self ..)
      unfold maxLen; omega
    have HST : Hid (termStep ((a_s, a_p, a_n, (a_v0, a_l0), (a_v1, a_l1), (a_v2, a_l2), (a_v3, a_l3)) : Atm) r = if a_n = 4 then .error (r.length, 4) else .ok (putT ((a_s, a_p, a_n, (a_v0, a_l0), (a_v1, a_l1), (a_v2, a_l2), (a_v3, a_l3)) : Atm) (variableB t, t), r1)) := by show _ = _; rw [termStep, hnm]
    clear HNM hnm
    by_cases h4 : a_n = 4
    · subst h4
      have hr : Hid (termStep ((a_s, a_p, 4, (a_v0, a_l0), (a_v1, a_l1), (a_v2, a_l2), (a_v3, a_l3)) : Atm) r = .error (r.length, 4)) := by show _ = _; rw [HST.out, if_pos rfl]
      rw [hr.out]
      have HF := Lib.hid (fun W (hh : Prs w0 W g lv L n r1 c3 c4 c5 c6 c7 c8 c9 c10) => pfail_back (r := r) 4 hh h.par.suf)
      rw [← hi.out] at HF
      have HC := Lib.hid hA
      have HC2 := Lib.hid hP
      have hpg2 := Lib.hid hpg
      have hag2 := Lib.hid hag
      clear hr HST h hP hA HH hi hpg hag hap htl
      go_enter Tryz.func110, Tryz.ntmps110
      go_wp2_with fail
      refine HN2.out.mono ?_
      rintro e w2 ⟨rfl, hp2, hk⟩
      have x2 : w2.cell? ⟨ab, 2, none⟩ = some (.int .i64 4) := (hk.cel HC.out hag2.out).cell 2
      replace p0 : w2.cell? ⟨pb, 0, none⟩ = some (.pointer (some ⟨g, 0, none⟩)) := (hk.cel HC2.out hpg2.out).cell 0
      clear HN2 g1
      go_wp2_with fail
      refine (HF.out _ hp2).mono ?_
      rintro e w3 ⟨rfl, hb⟩
      go_wp2_with fail
      exact ⟨rfl, rfl, hk.z.trans' (Keep.of_since hb)⟩
    · have hr : Hid (termStep ((a_s, a_p, a_n, (a_v0, a_l0), (a_v1, a_l1), (a_v2, a_l2), (a_v3, a_l3)) : Atm) r = .ok (putT ((a_s, a_p, a_n, (a_v0, a_l0), (a_v1, a_l1), (a_v2, a_l2), (a_v3, a_l3)) : Atm) (variableB t, t), r1)) := by show _ = _; rw [HST.out, if_neg h4]
      rw [hr.out]
      obtain ⟨vb, hvb⟩ : ∃ b, Hid (b = variableB t) := ⟨_, rfl⟩
      have HV : Hid (∀ W, Calls Tryz.prog 112 #[.string ⟨t.toArray⟩] W fun e w' => e = .returned (.bool vb) ∧ Since W w') := fun W => (variable_any t W htl).mono fun e w' hx => ⟨by rw [hvb.out]; exact hx.1, hx.2 ▸ Since.refl _⟩
      rw [← hvb.out]
      have HC := Lib.hid hA
      have HC2 := Lib.hid hP
      have hpg2 := Lib.hid hpg
      have hag2 := Lib.hid hag
      have hap2 := Lib.hid hap
      have hcs : a_n = 0 ∨ a_n = 1 ∨ a_n = 2 ∨ a_n = 3 := by omega
      clear hr HST h hP hA HH hi hpg hag hap htl h4 hn0 hn4 hvb
      rcases hcs with rfl | rfl | rfl | rfl
      · go_enter Tryz.func110, Tryz.ntmps110
        go_wp2_with fail
        refine HN2.out.mono ?_
        rintro e w2 ⟨rfl, hp2, hk⟩
        have hC := hk.cel HC.out hag2.out
        have hP2 := hk.cel HC2.out hpg2.out
        have hC9 := hC
        have x2 : w2.cell? ⟨ab, 2, none⟩ = some (.int .i64 0) := hC.cell 2
        have hT : At w2 ab 2 #[.int .i64 0] := At.one x2
        have hSv : Since w2 w2.drew := (Since.refl w2).drew
        clear HN2 g1 p0
        go_upto_region 4 with (fail)
        replace hT := hT.next ((Since.refl w2).drew)
        replace hC := hC.next ((Since.refl w2).drew)
        refine hx_begin (S := fun W => (At W ab 2 #[.int .i64 0])) (by kernel_rfl) hT (by kernel_rfl) (fun _ _ _ _ _ h => h) (fun hns hQ => ?_)
        refine hx_take (i := 0) (oi := _) (v := .pointer (some ⟨ab, 2, none⟩)) rfl rfl hns (by kernel_rfl) (by kernel_rfl) hQ (by kernel_rfl) (fun _ _ => by kernel_rfl) hT ?_
        refine hx_take (i := 1) (oi := _) (v := .int .i64 0) rfl rfl hns (by kernel_rfl) (by kernel_rfl) hQ (by kernel_rfl) (fun W hW => ld_one rfl (by kernel_rfl) (by kernel_rfl) W (hW 0 _ rfl)) hT ?_
        refine hx_take (i := 2) (oi := _) (v := .string ⟨t.toArray⟩) rfl rfl hns (by kernel_rfl) (by kernel_rfl) hQ (by kernel_rfl) (fun _ _ => by kernel_rfl) hT ?_
        refine hx_take (i := 4) (oi := _) (v := .string ⟨t.toArray⟩) rfl rfl hns (by kernel_rfl) (by kernel_rfl) hQ (by kernel_rfl) (fun _ _ => by kernel_rfl) hT ?_
        refine hx_take (i := 6) (oi := _) (v := .pointer (some ⟨ab, 3, none⟩)) rfl rfl hns (by kernel_rfl) (by kernel_rfl) hQ (by kernel_rfl) (fun _ _ => by kernel_rfl) hT ?_
        refine hx_call (i := 3) (oi := _) 112 #[.string ⟨t.toArray⟩] rfl rfl (by kernel_rfl) (by kernel_rfl) (by kernel_rfl) (HV.out _) ?_
        rintro e wx51 ⟨rfl, hb⟩
        replace hT := hT.next hb
        replace hC := hC.next hb
        replace hSv := hSv.trans hb
        clear hb
        refine ⟨_, rfl, hT, ?_⟩
        refine hx_take (i := 5) (oi := _) (v := .agg #[.bool vb, .string ⟨t.toArray⟩]) rfl rfl hns (by kernel_rfl) (by kernel_rfl) hQ (by kernel_rfl) (fun _ _ => by kernel_rfl) hT ?_
        refine hx_take (i := 7) (oi := _) (v := .pointer (some ⟨ab, 3 + 0 * 2, none⟩)) rfl rfl hns (by kernel_rfl) (by kernel_rfl) hQ (by kernel_rfl) (fun W _ => ix_ar (n := 4) (K := 2) rfl (by kernel_rfl) (by kernel_rfl) (by kernel_rfl) rfl (by omega) W) hT ?_
        have hCn : Cel (wx51.setCells ab (3 + 0 * 2) [.bool vb, .string ⟨t.toArray⟩]) ab #[.string ⟨a_s.toArray⟩, .string ⟨a_p.toArray⟩, .int .i64 0, .bool vb, .string ⟨t.toArray⟩, .bool a_v1, .string ⟨a_l1.toArray⟩, .bool a_v2, .string ⟨a_l2.toArray⟩, .bool a_v3, .string ⟨a_l3.toArray⟩] 44 := (hC.set (j := 3 + 0 * 2) rfl).set (j := 3 + 0 * 2 + 1) rfl
        have hT2 : At (wx51.setCells ab (3 + 0 * 2) [.bool vb, .string ⟨t.toArray⟩]) ab 2 #[.int .i64 0] := At.one (hCn.cell 2)
        have hZn := only_sets wx51 ab (3 + 0 * 2) [.bool vb, .string ⟨t.toArray⟩]
        have hTH : wx51.there ab (3 + 0 * 2) 2 := cel_there hC (by show 3 + 0 * 2 + 2 ≤ 11; decide)
        refine hx_store (i := 8) (oi := _) (wx51.setCells ab (3 + 0 * 2) [.bool vb, .string ⟨t.toArray⟩]) rfl rfl (by kernel_rfl) (by kernel_rfl) (st_term rfl (by kernel_rfl) (by kernel_rfl) _ hTH rfl (by simp [Value.oneCell'])) hT2 ?_
        refine wpAnyH_done (by kernel_rfl) ?_ _
        clear hns hQ
        simp only [List.set_cons_zero, List.set_cons_succ]
        have hK1 : OnlyZ g D w2 (wx51.setCells ab (3 + 0 * 2) [.bool vb, .string ⟨t.toArray⟩]) := (Keep.of_since hSv).trans (hZn.mono (fun b hb => .inr (by rw [hb]; exact hab))) (fun _ h => .inl h)
        have hP3 := hZn.cel (hP2.next hSv) hap2.out
        have hp3 : Prs w0 (wx51.setCells ab (3 + 0 * 2) [.bool vb, .string ⟨t.toArray⟩]) g lv L n r1 c3 c4 c5 c6 c7 c8 c9 c10 := prs_z (hp2.next hSv) hag2.out (Nat.le_trans hlo hab) (hC9.next hSv) hZn
        generalize (wx51.setCells ab (3 + 0 * 2) [.bool vb, .string ⟨t.toArray⟩]) = w5 at *
        have x5 : w5.cell? ⟨ab, 2, none⟩ = some (.int .i64 0) := hCn.cell 2
        have z5 : w5.frozen? ⟨ab, 2, none⟩ = false := hCn.free 2
        have l5 : ab < w5.heap.size := hCn.lt
        have hZ6 := only_sets w5 ab 2 [.int .i64 1]
        clear hC x2 hSv hTH hZn hT hT2 hC9
        go_wp2_with fail
        go_end0
        have hC6 : Cel (w5.setCell ⟨ab, 2, none⟩ (.int .i64 1)) ab #[.string ⟨a_s.toArray⟩, .string ⟨a_p.toArray⟩, .int .i64 1, .bool vb, .string ⟨t.toArray⟩, .bool a_v1, .string ⟨a_l1.toArray⟩, .bool a_v2, .string ⟨a_l2.toArray⟩, .bool a_v3, .string ⟨a_l3.toArray⟩] 44 := hCn.set rfl
        exact ⟨rfl, prs_z hp3 hag2.out (Nat.le_trans hlo hab) hCn hZ6, ⟨hZ6.cel hP3 hap2.out, hC6, by show (0 : Int) ≤ 1; decide, by show (1 : Int) ≤ 4; decide⟩, (hk.z.trans' hK1).trans' (hZ6.mono (fun b hb => .inr (by rw [hb]; exact hab)))⟩
      · go_enter Tryz.func110, Tryz.ntmps110
        go_wp2_with fail
        refine HN2.out.mono ?_
        rintro e w2 ⟨rfl, hp2, hk⟩
        have hC := hk.cel HC.out hag2.out
        have hP2 := hk.cel HC2.out hpg2.out
        have hC9 := hC
        have x2 : w2.cell? ⟨ab, 2, none⟩ = some (.int .i64 1) := hC.cell 2
        have hT : At w2 ab 2 #[.int .i64 1] := At.one x2
        have hSv : Since w2 w2.drew := (Since.refl w2).drew
        clear HN2 g1 p0
        go_upto_region 4 with (fail)
        replace hT := hT.next ((Since.refl w2).drew)
        replace hC := hC.next ((Since.refl w2).drew)
        refine hx_begin (S := fun W => (At W ab 2 #[.int .i64 1])) (by kernel_rfl) hT (by kernel_rfl) (fun _ _ _ _ _ h => h) (fun hns hQ => ?_)
        refine hx_take (i := 0) (oi := _) (v := .pointer (some ⟨ab, 2, none⟩)) rfl rfl hns (by kernel_rfl) (by kernel_rfl) hQ (by kernel_rfl) (fun _ _ => by kernel_rfl) hT ?_
        refine hx_take (i := 1) (oi := _) (v := .int .i64 1) rfl rfl hns (by kernel_rfl) (by kernel_rfl) hQ (by kernel_rfl) (fun W hW => ld_one rfl (by kernel_rfl) (by kernel_rfl) W (hW 0 _ rfl)) hT ?_
        refine hx_take (i := 2) (oi := _) (v := .string ⟨t.toArray⟩) rfl rfl hns (by kernel_rfl) (by kernel_rfl) hQ (by kernel_rfl) (fun _ _ => by kernel_rfl) hT ?_
        refine hx_take (i := 4) (oi := _) (v := .string ⟨t.toArray⟩) rfl rfl hns (by kernel_rfl) (by kernel_rfl) hQ (by kernel_rfl) (fun _ _ => by kernel_rfl) hT ?_
        refine hx_take (i := 6) (oi := _) (v := .pointer (some ⟨ab, 3, none⟩)) rfl rfl hns (by kernel_rfl) (by kernel_rfl) hQ (by kernel_rfl) (fun _ _ => by kernel_rfl) hT ?_
        refine hx_call (i := 3) (oi := _) 112 #[.string ⟨t.toArray⟩] rfl rfl (by kernel_rfl) (by kernel_rfl) (by kernel_rfl) (HV.out _) ?_
        rintro e wx51 ⟨rfl, hb⟩
        replace hT := hT.next hb
        replace hC := hC.next hb
        replace hSv := hSv.trans hb
        clear hb
        refine ⟨_, rfl, hT, ?_⟩
        refine hx_take (i := 5) (oi := _) (v := .agg #[.bool vb, .string ⟨t.toArray⟩]) rfl rfl hns (by kernel_rfl) (by kernel_rfl) hQ (by kernel_rfl) (fun _ _ => by kernel_rfl) hT ?_
        refine hx_take (i := 7) (oi := _) (v := .pointer (some ⟨ab, 3 + 1 * 2, none⟩)) rfl rfl hns (by kernel_rfl) (by kernel_rfl) hQ (by kernel_rfl) (fun W _ => ix_ar (n := 4) (K := 2) rfl (by kernel_rfl) (by kernel_rfl) (by kernel_rfl) rfl (by omega) W) hT ?_
        have hCn : Cel (wx51.setCells ab (3 + 1 * 2) [.bool vb, .string ⟨t.toArray⟩]) ab #[.string ⟨a_s.toArray⟩, .string ⟨a_p.toArray⟩, .int .i64 1, .bool a_v0, .string ⟨a_l0.toArray⟩, .bool vb, .string ⟨t.toArray⟩, .bool a_v2, .string ⟨a_l2.toArray⟩, .bool a_v3, .string ⟨a_l3.toArray⟩] 44 := (hC.set (j := 3 + 1 * 2) rfl).set (j := 3 + 1 * 2 + 1) rfl
        have hT2 : At (wx51.setCells ab (3 + 1 * 2) [.bool vb, .string ⟨t.toArray⟩]) ab 2 #[.int .i64 1] := At.one (hCn.cell 2)
        have hZn := only_sets wx51 ab (3 + 1 * 2) [.bool vb, .string ⟨t.toArray⟩]
        have hTH : wx51.there ab (3 + 1 * 2) 2 := cel_there hC (by show 3 + 1 * 2 + 2 ≤ 11; decide)
        refine hx_store (i := 8) (oi := _) (wx51.setCells ab (3 + 1 * 2) [.bool vb, .string ⟨t.toArray⟩]) rfl rfl (by kernel_rfl) (by kernel_rfl) (st_term rfl (by kernel_rfl) (by kernel_rfl) _ hTH rfl (by simp [Value.oneCell'])) hT2 ?_
        refine wpAnyH_done (by kernel_rfl) ?_ _
        clear hns hQ
        simp only [List.set_cons_zero, List.set_cons_succ]
        have hK1 : OnlyZ g D w2 (wx51.setCells ab (3 + 1 * 2) [.bool vb, .string ⟨t.toArray⟩]) := (Keep.of_since hSv).trans (hZn.mono (fun b hb => .inr (by rw [hb]; exact hab))) (fun _ h => .inl h)
        have hP3 := hZn.cel (hP2.next hSv) hap2.out
        have hp3 : Prs w0 (wx51.setCells ab (3 + 1 * 2) [.bool vb, .string ⟨t.toArray⟩]) g lv L n r1 c3 c4 c5 c6 c7 c8 c9 c10 := prs_z (hp2.next hSv) hag2.out (Nat.le_trans hlo hab) (hC9.next hSv) hZn
        generalize (wx51.setCells ab (3 + 1 * 2) [.bool vb, .string ⟨t.toArray⟩]) = w5 at *
        have x5 : w5.cell? ⟨ab, 2, none⟩ = some (.int .i64 1) := hCn.cell 2
        have z5 : w5.frozen? ⟨ab, 2, none⟩ = false := hCn.free 2
        have l5 : ab < w5.heap.size := hCn.lt
        have hZ6 := only_sets w5 ab 2 [.int .i64 2]
        clear hC x2 hSv hTH hZn hT hT2 hC9
        go_wp2_with fail
        go_end0
        have hC6 : Cel (w5.setCell ⟨ab, 2, none⟩ (.int .i64 2)) ab #[.string ⟨a_s.toArray⟩, .string ⟨a_p.toArray⟩, .int .i64 2, .bool a_v0, .string ⟨a_l0.toArray⟩, .bool vb, .string ⟨t.toArray⟩, .bool a_v2, .string ⟨a_l2.toArray⟩, .bool a_v3, .string ⟨a_l3.toArray⟩] 44 := hCn.set rfl
        exact ⟨rfl, prs_z hp3 hag2.out (Nat.le_trans hlo hab) hCn hZ6, ⟨hZ6.cel hP3 hap2.out, hC6, by show (0 : Int) ≤ 2; decide, by show (2 : Int) ≤ 4; decide⟩, (hk.z.trans' hK1).trans' (hZ6.mono (fun b hb => .inr (by rw [hb]; exact hab)))⟩
      · go_enter Tryz.func110, Tryz.ntmps110
        go_wp2_with fail
        refine HN2.out.mono ?_
        rintro e w2 ⟨rfl, hp2, hk⟩
        have hC := hk.cel HC.out hag2.out
        have hP2 := hk.cel HC2.out hpg2.out
        have hC9 := hC
        have x2 : w2.cell? ⟨ab, 2, none⟩ = some (.int .i64 2) := hC.cell 2
        have hT : At w2 ab 2 #[.int .i64 2] := At.one x2
        have hSv : Since w2 w2.drew := (Since.refl w2).drew
        clear HN2 g1 p0
        go_upto_region 4 with (fail)
        replace hT := hT.next ((Since.refl w2).drew)
        replace hC := hC.next ((Since.refl w2).drew)
        refine hx_begin (S := fun W => (At W ab 2 #[.int .i64 2])) (by kernel_rfl) hT (by kernel_rfl) (fun _ _ _ _ _ h => h) (fun hns hQ => ?_)
        refine hx_take (i := 0) (oi := _) (v := .pointer (some ⟨ab, 2, none⟩)) rfl rfl hns (by kernel_rfl) (by kernel_rfl) hQ (by kernel_rfl) (fun _ _ => by kernel_rfl) hT ?_
        refine hx_take (i := 1) (oi := _) (v := .int .i64 2) rfl rfl hns (by kernel_rfl) (by kernel_rfl) hQ (by kernel_rfl) (fun W hW => ld_one rfl (by kernel_rfl) (by kernel_rfl) W (hW 0 _ rfl)) hT ?_
        refine hx_take (i := 2) (oi := _) (v := .string ⟨t.toArray⟩) rfl rfl hns (by kernel_rfl) (by kernel_rfl) hQ (by kernel_rfl) (fun _ _ => by kernel_rfl) hT ?_
        refine hx_take (i := 4) (oi := _) (v := .string ⟨t.toArray⟩) rfl rfl hns (by kernel_rfl) (by kernel_rfl) hQ (by kernel_rfl) (fun _ _ => by kernel_rfl) hT ?_
        refine hx_take (i := 6) (oi := _) (v := .pointer (some ⟨ab, 3, none⟩)) rfl rfl hns (by kernel_rfl) (by kernel_rfl) hQ (by kernel_rfl) (fun _ _ => by kernel_rfl) hT ?_
        refine hx_call (i := 3) (oi := _) 112 #[.string ⟨t.toArray⟩] rfl rfl (by kernel_rfl) (by kernel_rfl) (by kernel_rfl) (HV.out _) ?_
        rintro e wx51 ⟨rfl, hb⟩
        replace hT := hT.next hb
        replace hC := hC.next hb
        replace hSv := hSv.trans hb
        clear hb
        refine ⟨_, rfl, hT, ?_⟩
        refine hx_take (i := 5) (oi := _) (v := .agg #[.bool vb, .string ⟨t.toArray⟩]) rfl rfl hns (by kernel_rfl) (by kernel_rfl) hQ (by kernel_rfl) (fun _ _ => by kernel_rfl) hT ?_
        refine hx_take (i := 7) (oi := _) (v := .pointer (some ⟨ab, 3 + 2 * 2, none⟩)) rfl rfl hns (by kernel_rfl) (by kernel_rfl) hQ (by kernel_rfl) (fun W _ => ix_ar (n := 4) (K := 2) rfl (by kernel_rfl) (by kernel_rfl) (by kernel_rfl) rfl (by omega) W) hT ?_
        have hCn : Cel (wx51.setCells ab (3 + 2 * 2) [.bool vb, .string ⟨t.toArray⟩]) ab #[.string ⟨a_s.toArray⟩, .string ⟨a_p.toArray⟩, .int .i64 2, .bool a_v0, .string ⟨a_l0.toArray⟩, .bool a_v1, .string ⟨a_l1.toArray⟩, .bool vb, .string ⟨t.toArray⟩, .bool a_v3, .string ⟨a_l3.toArray⟩] 44 := (hC.set (j := 3 + 2 * 2) rfl).set (j := 3 + 2 * 2 + 1) rfl
        have hT2 : At (wx51.setCells ab (3 + 2 * 2) [.bool vb, .string ⟨t.toArray⟩]) ab 2 #[.int .i64 2] := At.one (hCn.cell 2)
        have hZn := only_sets wx51 ab (3 + 2 * 2) [.bool vb, .string ⟨t.toArray⟩]
        have hTH : wx51.there ab (3 + 2 * 2) 2 := cel_there hC (by show 3 + 2 * 2 + 2 ≤ 11; decide)
        refine hx_store (i := 8) (oi := _) (wx51.setCells ab (3 + 2 * 2) [.bool vb, .string ⟨t.toArray⟩]) rfl rfl (by kernel_rfl) (by kernel_rfl) (st_term rfl (by kernel_rfl) (by kernel_rfl) _ hTH rfl (by simp [Value.oneCell'])) hT2 ?_
        refine wpAnyH_done (by kernel_rfl) ?_ _
        clear hns hQ
        simp only [List.set_cons_zero, List.set_cons_succ]
        have hK1 : OnlyZ g D w2 (wx51.setCells ab (3 + 2 * 2) [.bool vb, .string ⟨t.toArray⟩]) := (Keep.of_since hSv).trans (hZn.mono (fun b hb => .inr (by rw [hb]; exact hab))) (fun _ h => .inl h)
        have hP3 := hZn.cel (hP2.next hSv) hap2.out
        have hp3 : Prs w0 (wx51.setCells ab (3 + 2 * 2) [.bool vb, .string ⟨t.toArray⟩]) g lv L n r1 c3 c4 c5 c6 c7 c8 c9 c10 := prs_z (hp2.next hSv) hag2.out (Nat.le_trans hlo hab) (hC9.next hSv) hZn
        generalize (wx51.setCells ab (3 + 2 * 2) [.bool vb, .string ⟨t.toArray⟩]) = w5 at *
        have x5 : w5.cell? ⟨ab, 2, none⟩ = some (.int .i64 2) := hCn.cell 2
        have z5 : w5.frozen? ⟨ab, 2, none⟩ = false := hCn.free 2
        have l5 : ab < w5.heap.size := hCn.lt
        have hZ6 := only_sets w5 ab 2 [.int .i64 3]
        clear hC x2 hSv hTH hZn hT hT2 hC9
        go_wp2_with fail
        go_end0
        have hC6 : Cel (w5.setCell ⟨ab, 2, none⟩ (.int .i64 3)) ab #[.string ⟨a_s.toArray⟩, .string ⟨a_p.toArray⟩, .int .i64 3, .bool a_v0, .string ⟨a_l0.toArray⟩, .bool a_v1, .string ⟨a_l1.toArray⟩, .bool vb, .string ⟨t.toArray⟩, .bool a_v3, .string ⟨a_l3.toArray⟩] 44 := hCn.set rfl
        exact ⟨rfl, prs_z hp3 hag2.out (Nat.le_trans hlo hab) hCn hZ6, ⟨hZ6.cel hP3 hap2.out, hC6, by show (0 : Int) ≤ 3; decide, by show (3 : Int) ≤ 4; decide⟩, (hk.z.trans' hK1).trans' (hZ6.mono (fun b hb => .inr (by rw [hb]; exact hab)))⟩
      · go_enter Tryz.func110, Tryz.ntmps110
        go_wp2_with fail
        refine HN2.out.mono ?_
        rintro e w2 ⟨rfl, hp2, hk⟩
        have hC := hk.cel HC.out hag2.out
        have hP2 := hk.cel HC2.out hpg2.out
        have hC9 := hC
        have x2 : w2.cell? ⟨ab, 2, none⟩ = some (.int .i64 3) := hC.cell 2
        have hT : At w2 ab 2 #[.int .i64 3] := At.one x2
        have hSv : Since w2 w2.drew := (Since.refl w2).drew
        clear HN2 g1 p0
        go_upto_region 4 with (fail)
        replace hT := hT.next ((Since.refl w2).drew)
        replace hC := hC.next ((Since.refl w2).drew)
        refine hx_begin (S := fun W => (At W ab 2 #[.int .i64 3])) (by kernel_rfl) hT (by kernel_rfl) (fun _ _ _ _ _ h => h) (fun hns hQ => ?_)
        refine hx_take (i := 0) (oi := _) (v := .pointer (some ⟨ab, 2, none⟩)) rfl rfl hns (by kernel_rfl) (by kernel_rfl) hQ (by kernel_rfl) (fun _ _ => by kernel_rfl) hT ?_
        refine hx_take (i := 1) (oi := _) (v := .int .i64 3) rfl rfl hns (by kernel_rfl) (by kernel_rfl) hQ (by kernel_rfl) (fun W hW => ld_one rfl (by kernel_rfl) (by kernel_rfl) W (hW 0 _ rfl)) hT ?_
        refine hx_take (i := 2) (oi := _) (v := .string ⟨t.toArray⟩) rfl rfl hns (by kernel_rfl) (by kernel_rfl) hQ (by kernel_rfl) (fun _ _ => by kernel_rfl) hT ?_
        refine hx_take (i := 4) (oi := _) (v := .string ⟨t.toArray⟩) rfl rfl hns (by kernel_rfl) (by kernel_rfl) hQ (by kernel_rfl) (fun _ _ => by kernel_rfl) hT ?_
        refine hx_take (i := 6) (oi := _) (v := .pointer (some ⟨ab, 3, none⟩)) rfl rfl hns (by kernel_rfl) (by kernel_rfl) hQ (by kernel_rfl) (fun _ _ => by kernel_rfl) hT ?_
        refine hx_call (i := 3) (oi := _) 112 #[.string ⟨t.toArray⟩] rfl rfl (by kernel_rfl) (by kernel_rfl) (by kernel_rfl) (HV.out _) ?_
        rintro e wx51 ⟨rfl, hb⟩
        replace hT := hT.next hb
        replace hC := hC.next hb
        replace hSv := hSv.trans hb
        clear hb
        refine ⟨_, rfl, hT, ?_⟩
        refine hx_take (i := 5) (oi := _) (v := .agg #[.bool vb, .string ⟨t.toArray⟩]) rfl rfl hns (by kernel_rfl) (by kernel_rfl) hQ (by kernel_rfl) (fun _ _ => by kernel_rfl) hT ?_
        refine hx_take (i := 7) (oi := _) (v := .pointer (some ⟨ab, 3 + 3 * 2, none⟩)) rfl rfl hns (by kernel_rfl) (by kernel_rfl) hQ (by kernel_rfl) (fun W _ => ix_ar (n := 4) (K := 2) rfl (by kernel_rfl) (by kernel_rfl) (by kernel_rfl) rfl (by omega) W) hT ?_
        have hCn : Cel (wx51.setCells ab (3 + 3 * 2) [.bool vb, .string ⟨t.toArray⟩]) ab #[.string ⟨a_s.toArray⟩, .string ⟨a_p.toArray⟩, .int .i64 3, .bool a_v0, .string ⟨a_l0.toArray⟩, .bool a_v1, .string ⟨a_l1.toArray⟩, .bool a_v2, .string ⟨a_l2.toArray⟩, .bool vb, .string ⟨t.toArray⟩] 44 := (hC.set (j := 3 + 3 * 2) rfl).set (j := 3 + 3 * 2 + 1) rfl
        have hT2 : At (wx51.setCells ab (3 + 3 * 2) [.bool vb, .string ⟨t.toArray⟩]) ab 2 #[.int .i64 3] := At.one (hCn.cell 2)
        have hZn := only_sets wx51 ab (3 + 3 * 2) [.bool vb, .string ⟨t.toArray⟩]
        have hTH : wx51.there ab (3 + 3 * 2) 2 := cel_there hC (by show 3 + 3 * 2 + 2 ≤ 11; decide)
        refine hx_store (i := 8) (oi := _) (wx51.setCells ab (3 + 3 * 2) [.bool vb, .string ⟨t.toArray⟩]) rfl rfl (by kernel_rfl) (by kernel_rfl) (st_term rfl (by kernel_rfl) (by kernel_rfl) _ hTH rfl (by simp [Value.oneCell'])) hT2 ?_
        refine wpAnyH_done (by kernel_rfl) ?_ _
        clear hns hQ
        simp only [List.set_cons_zero, List.set_cons_succ]
        have hK1 : OnlyZ g D w2 (wx51.setCells ab (3 + 3 * 2) [.bool vb, .string ⟨t.toArray⟩]) := (Keep.of_since hSv).trans (hZn.mono (fun b hb => .inr (by rw [hb]; exact hab))) (fun _ h => .inl h)
        have hP3 := hZn.cel (hP2.next hSv) hap2.out
        have hp3 : Prs w0 (wx51.setCells ab (3 + 3 * 2) [.bool vb, .string ⟨t.toArray⟩]) g lv L n r1 c3 c4 c5 c6 c7 c8 c9 c10 := prs_z (hp2.next hSv) hag2.out (Nat.le_trans hlo hab) (hC9.next hSv) hZn
        generalize (wx51.setCells ab (3 + 3 * 2) [.bool vb, .string ⟨t.toArray⟩]) = w5 at *
        have x5 : w5.cell? ⟨ab, 2, none⟩ = some (.int .i64 3) := hCn.cell 2
        have z5 : w5.frozen? ⟨ab, 2, none⟩ = false := hCn.free 2
        have l5 : ab < w5.heap.size := hCn.lt
        have hZ6 := only_sets w5 ab 2 [.int .i64 4]
        clear hC x2 hSv hTH hZn hT hT2 hC9
        go_wp2_with fail
        go_end0
        have hC6 : Cel (w5.setCell ⟨ab, 2, none⟩ (.int .i64 4)) ab #[.string ⟨a_s.toArray⟩, .string ⟨a_p.toArray⟩, .int .i64 4, .bool a_v0, .string ⟨a_l0.toArray⟩, .bool a_v1, .string ⟨a_l1.toArray⟩, .bool a_v2, .string ⟨a_l2.toArray⟩, .bool vb, .string ⟨t.toArray⟩] 44 := hCn.set rfl
        exact ⟨rfl, prs_z hp3 hag2.out (Nat.le_trans hlo hab) hCn hZ6, ⟨hZ6.cel hP3 hap2.out, hC6, by show (0 : Int) ≤ 4; decide, by show (4 : Int) ≤ 4; decide⟩, (hk.z.trans' hK1).trans' (hZ6.mono (fun b hb => .inr (by rw [hb]; exact hab)))⟩
/-- What a method of the parser answers: what is read, or an error. -/
def POut {α : Type} (w0 w : World) (g : Nat) (lv : Value) (L : List Tk) (n : Nat) (c3 c4 c5 c6 c7 c8 c9 c10 : Value) (V : α → Value) (R : Except PErr (α × Toks)) (e : Ending) (w' : World) : Prop := match R with
  | .error (k, er) => e = .panicked [FlawE (placeK L n k) er] ∧ OnlyG g w w'
  | .ok (a, r1) => e = .returned (V a) ∧ Prs w0 w' g lv L n r1 c3 c4 c5 c6 c7 c8 c9 c10 ∧ OnlyG g w w'
theorem only_since {g : Nat} {a b c : World} (h : Since a b) (k : OnlyG g b c) : OnlyG g a c := (Keep.of_since h).trans k fun _ hx => .inl hx
theorem only_then {g : Nat} {a b c : World} (h : OnlyG g a b) (k : Since b c) : OnlyG g a c := h.trans (Keep.of_since (Z := fun _ => False) k) fun _ hx => hx.elim
theorem only_only {g : Nat} {a b c : World} (h : OnlyG g a b) (k : OnlyG g b c) : OnlyG g a c := h.trans k fun _ hx => .inl hx
theorem only_z {g D : Nat} {a b c : World} (h : OnlyG g a b) (k : OnlyZ g D b c) (hD : a.heap.size ≤ D) : OnlyG g a c := h.trans k fun _ hx => hx.elim .inl fun hd => .inr (Nat.le_trans hD hd)
theorem only_new {g q : Nat} {a b c : World} (h : OnlyG g a b) (k : Keep (fun x => x = q) b c) (hq : a.heap.size ≤ q) : OnlyG g a c := h.trans k fun x hx => .inr (by rw [hx]; exact hq)
theorem row_setRow {W : World} {g : Nat} {cs ds : Array Value} {T : TypeId} (_h : Cel W g cs T) : Keep (fun b => b = g) W (W.setRow g ds) := Keep.of_grown (grown_setRow W g ds) fun b hb => by injection hb with hb; exact hb.symm
set_option maxHeartbeats 4000000 in
set_option maxRecDepth 100000 in
theorem psaid_any {w0 : World} {g : Nat} {lv : Value} {L : List Tk} {n : Nat} {c3 c4 c5 c6 c7 c8 c9 c10 : Value} (who : Txt) (r : Toks) (w : World) (h : Prs w0 w g lv L n r c3 c4 c5 c6 c7 c8 c9 c10) :
    Calls Tryz.prog 90 #[.pointer (some ⟨g, 0, none⟩), .string ⟨who.toArray⟩] w (POut w0 w g lv L n c3 c4 c5 c6 c7 c8 c9 c10 (fun a => .agg (atmC a)) (saidT who r)) := by
  have hmf : ∀ (fn : Fn) (first cap : Array Value) (w : World), (Instr.makeFunc fn first cap).run Tryz.prog w = .ok (.func fn first cap) w := fun _ _ _ _ => rfl
  obtain ⟨R, hR⟩ : ∃ R, Hid (R = saidT who r) := ⟨_, rfl⟩
  obtain ⟨K, hK⟩ : ∃ K : Ending → World → Prop, Hid (K = POut w0 w g lv L n c3 c4 c5 c6 c7 c8 c9 c10 (fun a => .agg (atmC a)) R) := ⟨_, rfl⟩
  have hbad : Hid (∀ k er w', R = .error (k, er) → OnlyG g w w' → K (.panicked [FlawE (placeK L n k) er]) w') := fun k er w' e h => by rw [hK.out, e]; exact ⟨rfl, h⟩
  have hgood : Hid (∀ a r1 w', R = .ok (a, r1) → Prs w0 w' g lv L n r1 c3 c4 c5 c6 c7 c8 c9 c10 → OnlyG g w w' → K (.returned (.agg (atmC a))) w') := fun a r1 w' e h1 h2 => by rw [hK.out, e]; exact ⟨rfl, h1, h2⟩
  rw [← hR.out, ← hK.out]
  clear hK
  have hSb : Since w (w.alloc (.cells #[.pointer (some ⟨g, 0, none⟩)] 80)) := (Since.refl w).alloc _
  have hPb : Cel (w.alloc (.cells #[.pointer (some ⟨g, 0, none⟩)] 80)) w.heap.size #[.pointer (some ⟨g, 0, none⟩)] 80 := heap_alloc_new w _
  have HH := Lib.hid h
  have hgl := h.par.cel.lt
  have HG := Lib.hid hgl
  have HS0 := Lib.hid h.sin.size
  clear h hgl
  go_enter Tryz.func90, Tryz.ntmps90
  go_upto_region 1 with (fail)
  have hSc : Since w ((w.alloc (.cells #[.pointer (some ⟨g, 0, none⟩)] 80)).alloc (.cells #[.string ⟨#[]⟩, .string ⟨#[]⟩, .int .i64 0, .bool false, .string ⟨#[]⟩, .bool false, .string ⟨#[]⟩, .bool false, .string ⟨#[]⟩, .bool false, .string ⟨#[]⟩] 44)) := hSb.alloc _
  have hPc : Cel ((w.alloc (.cells #[.pointer (some ⟨g, 0, none⟩)] 80)).alloc (.cells #[.string ⟨#[]⟩, .string ⟨#[]⟩, .int .i64 0, .bool false, .string ⟨#[]⟩, .bool false, .string ⟨#[]⟩, .bool false, .string ⟨#[]⟩, .bool false, .string ⟨#[]⟩] 44)) w.heap.size #[.pointer (some ⟨g, 0, none⟩)] 80 := hPb.next ((Since.refl _).alloc _)
  have hRc : Cel ((w.alloc (.cells #[.pointer (some ⟨g, 0, none⟩)] 80)).alloc (.cells #[.string ⟨#[]⟩, .string ⟨#[]⟩, .int .i64 0, .bool false, .string ⟨#[]⟩, .bool false, .string ⟨#[]⟩, .bool false, .string ⟨#[]⟩, .bool false, .string ⟨#[]⟩] 44)) (w.heap.size + 1) #[.string ⟨#[]⟩, .string ⟨#[]⟩, .int .i64 0, .bool false, .string ⟨#[]⟩, .bool false, .string ⟨#[]⟩, .bool false, .string ⟨#[]⟩, .bool false, .string ⟨#[]⟩] 44 := by
    have k := heap_alloc_new (w.alloc (.cells #[.pointer (some ⟨g, 0, none⟩)] 80)) (.cells #[.string ⟨#[]⟩, .string ⟨#[]⟩, .int .i64 0, .bool false, .string ⟨#[]⟩, .bool false, .string ⟨#[]⟩, .bool false, .string ⟨#[]⟩, .bool false, .string ⟨#[]⟩] 44)
    rw [show (w.alloc (.cells #[.pointer (some ⟨g, 0, none⟩)] 80)).heap.size = w.heap.size + 1 by simp] at k
    exact k
  have hsz : ((w.alloc (.cells #[.pointer (some ⟨g, 0, none⟩)] 80)).alloc (.cells #[.string ⟨#[]⟩, .string ⟨#[]⟩, .int .i64 0, .bool false, .string ⟨#[]⟩, .bool false, .string ⟨#[]⟩, .bool false, .string ⟨#[]⟩, .bool false, .string ⟨#[]⟩] 44)).heap.size = w.heap.size + 2 := by simp
  clear hSb hPb
  generalize ((w.alloc (.cells #[.pointer (some ⟨g, 0, none⟩)] 80)).alloc (.cells #[.string ⟨#[]⟩, .string ⟨#[]⟩, .int .i64 0, .bool false, .string ⟨#[]⟩, .bool false, .string ⟨#[]⟩, .bool false, .string ⟨#[]⟩, .bool false, .string ⟨#[]⟩] 44)) = w1 at *
  obtain ⟨pb, hpb⟩ : ∃ x, Hid (x = w.heap.size) := ⟨_, rfl⟩
  obtain ⟨rb, hrb⟩ : ∃ x, Hid (x = w.heap.size + 1) := ⟨_, rfl⟩
  rw [← hpb.out] at hPc
  rw [← hrb.out] at hRc
  simp only [← hrb.out]
  simp only [← hpb.out]
  have h1 := HH.out.next hSc
  have HSZ := Lib.hid hsz
  have p1 : w1.cell? ⟨pb, 0, none⟩ = some (.pointer (some ⟨g, 0, none⟩)) := hPc.cell 0
  have HNM := Lib.hid (ppred_here h1)
  have HPg : Hid (¬ pb = g) := by show ¬ _; rw [hpb.out]; have := HG.out; omega
  have HRg : Hid (¬ rb = g) := by show ¬ _; rw [hrb.out]; have := HG.out; omega
  have HPR : Hid (pb < w.heap.size + 2 ∧ rb < w.heap.size + 2 ∧ w.heap.size ≤ rb) := by show _ ∧ _; rw [hpb.out, hrb.out]; omega
  clear hsz HH HG hpb hrb
  cases hnm : nameT principalB r with
  | error x =>
    obtain ⟨k, er⟩ := x
    rw [hnm] at HNM
    have hr : Hid (R = .error (k, er)) := by show _ = _; rw [hR.out, saidT, hnm]
    have HN2 : Hid (Calls Tryz.prog 83 #[.pointer (some ⟨g, 0, none⟩), .func (.func 85) #[] #[]] w1 fun e w' => e = .panicked [FlawE (placeK L n k) er] ∧ OnlyG g w1 w') := HNM.out
    have HS2 := Lib.hid hSc
    clear HNM hnm h1 hPc hRc hR hSc
    go_wp2_with fail
    refine HN2.out.mono ?_
    rintro e w2 ⟨rfl, hk⟩
    go_wp2_with fail
    exact ⟨rfl, hbad.out _ _ _ hr.out (only_since HS2.out hk)⟩
  | ok x =>
    obtain ⟨pred, r1⟩ := x
    rw [hnm] at HNM
    have HN2 : Hid (Calls Tryz.prog 83 #[.pointer (some ⟨g, 0, none⟩), .func (.func 85) #[] #[]] w1 fun e w' => e = .returned (.string ⟨pred.toArray⟩) ∧ Prs w0 w' g lv L n r1 c3 c4 c5 c6 c7 c8 c9 c10 ∧ OnlyG g w1 w') := HNM.out
    have HR2 : Hid (R = if isT [40] r1 = true then (match eachT termStep (atom0 who pred) (r1.drop 1) with
      | .error e => .error e
      | .ok (a, r2) => match mustT [41] r2 with
        | .error e => .error e
        | .ok r3 => .ok (a, r3)) else .ok (atom0 who pred, r1)) := by show _ = _; rw [hR.out, saidT, hnm]; rfl
    clear HNM hnm h1 hR
    go_wp2_with fail
    refine HN2.out.mono ?_
    rintro e w2 ⟨rfl, hp2, hk2⟩
    have hP2 := hk2.cel hPc HPg.out
    have hR2 := hk2.cel hRc HRg.out
    have hG2 := only_since hSc hk2
    have hs2 : w.heap.size + 2 ≤ w2.heap.size := by rw [← HSZ.out]; exact hk2.size
    clear HN2 p1 hPc hRc hk2 HSZ
    go_upto_region 2 with (fail)
    have hS3 : Since w2 (w2.alloc (.cells #[.string ⟨who.toArray⟩, .string ⟨pred.toArray⟩, .int .i64 0, .bool false, .string ⟨#[]⟩, .bool false, .string ⟨#[]⟩, .bool false, .string ⟨#[]⟩, .bool false, .string ⟨#[]⟩] 44)) := (Since.refl _).alloc _
    have hA3 : Cel (w2.alloc (.cells #[.string ⟨who.toArray⟩, .string ⟨pred.toArray⟩, .int .i64 0, .bool false, .string ⟨#[]⟩, .bool false, .string ⟨#[]⟩, .bool false, .string ⟨#[]⟩, .bool false, .string ⟨#[]⟩] 44)) w2.heap.size (atmC (atom0 who pred)) 44 := heap_alloc_new w2 _
    have hP3 := hP2.next hS3
    have hR3 := hR2.next hS3
    have hp3 := hp2.next hS3
    have hG3 := only_then hG2 hS3
    have hab : Hid (pb < w2.heap.size ∧ rb < w2.heap.size ∧ w.heap.size ≤ w2.heap.size ∧ w0.heap.size ≤ w2.heap.size ∧ w.heap.size ≤ rb ∧ w2.heap.size < (w2.alloc (.cells #[.string ⟨who.toArray⟩, .string ⟨pred.toArray⟩, .int .i64 0, .bool false, .string ⟨#[]⟩, .bool false, .string ⟨#[]⟩, .bool false, .string ⟨#[]⟩, .bool false, .string ⟨#[]⟩] 44)).heap.size ∧ ¬ w2.heap.size = g) := by
      have k1 := HPR.out
      have k2 := hp2.sin.size
      have k3 := hp2.par.cel.lt
      refine ⟨by omega, by omega, by omega, k2, k1.2.2, by simp, by omega⟩
    clear hP2 hR2 hp2 hG2 hS3 hs2 HPR
    generalize w2.alloc (.cells #[.string ⟨who.toArray⟩, .string ⟨pred.toArray⟩, .int .i64 0, .bool false, .string ⟨#[]⟩, .bool false, .string ⟨#[]⟩, .bool false, .string ⟨#[]⟩, .bool false, .string ⟨#[]⟩] 44) = w3 at *
    generalize w2.heap.size = ab at *
    have p3 : w3.cell? ⟨pb, 0, none⟩ = some (.pointer (some ⟨g, 0, none⟩)) := hP3.cell 0
    have HSK := Lib.hid (pskip_here [40] hp3 (by decide))
    obtain ⟨b, hb⟩ : ∃ b, Hid (b = isT [40] r1) := ⟨_, rfl⟩
    rw [← hb.out] at HSK HR2
    cases b with
    | false =>
      have HS2 : Hid (Calls Tryz.prog 92 #[.pointer (some ⟨g, 0, none⟩), .string ⟨#[40]⟩] w3 fun e w' => e = .returned (.bool false) ∧ Prs w0 w' g lv L n r1 c3 c4 c5 c6 c7 c8 c9 c10 ∧ OnlyG g w3 w') := HSK.out
      have HR3 : Hid (R = .ok (atom0 who pred, r1)) := HR2.out
      clear HSK HR2 hb hp3
      go_wp2_with fail
      refine HS2.out.mono ?_
      rintro e w4 ⟨rfl, hp4, hk4⟩
      have hA4 := hk4.cel hA3 hab.out.2.2.2.2.2.2
      have hR4 := hk4.cel hR3 HRg.out
      have hG4 := only_only hG3 hk4
      have y0 : (w4).cell? ⟨ab, 0, none⟩ = some (.string ⟨who.toArray⟩) := hA4.cell 0
      have y1 : (w4).cell? ⟨ab, 1, none⟩ = some (.string ⟨pred.toArray⟩) := hA4.cell 1
      have y2 : (w4).cell? ⟨ab, 2, none⟩ = some (.int .i64 0) := hA4.cell 2
      have y3 : (w4).cell? ⟨ab, 3, none⟩ = some (.bool false) := hA4.cell 3
      have y4 : (w4).cell? ⟨ab, 4, none⟩ = some (.string ⟨#[]⟩) := hA4.cell 4
      have y5 : (w4).cell? ⟨ab, 5, none⟩ = some (.bool false) := hA4.cell 5
      have y6 : (w4).cell? ⟨ab, 6, none⟩ = some (.string ⟨#[]⟩) := hA4.cell 6
      have y7 : (w4).cell? ⟨ab, 7, none⟩ = some (.bool false) := hA4.cell 7
      have y8 : (w4).cell? ⟨ab, 8, none⟩ = some (.string ⟨#[]⟩) := hA4.cell 8
      have y9 : (w4).cell? ⟨ab, 9, none⟩ = some (.bool false) := hA4.cell 9
      have y10 : (w4).cell? ⟨ab, 10, none⟩ = some (.string ⟨#[]⟩) := hA4.cell 10
      have hone : Hid (((#[.string ⟨who.toArray⟩, .string ⟨pred.toArray⟩, .int .i64 0, .bool false, .string ⟨#[]⟩, .bool false, .string ⟨#[]⟩, .bool false, .string ⟨#[]⟩, .bool false, .string ⟨#[]⟩] : Array Value).all (·.oneCell')) = true) := by show _ = _; simp [Value.oneCell']
      clear HS2 p3 hP3 hA3 hR3 hk4 hG3
      go_wp2_with (refine wpList_store_row rfl 44 (.tmp 4) (.tmp 13) rfl rb #[.string ⟨who.toArray⟩, .string ⟨pred.toArray⟩, .int .i64 0, .bool false, .string ⟨#[]⟩, .bool false, .string ⟨#[]⟩, .bool false, .string ⟨#[]⟩, .bool false, .string ⟨#[]⟩] rfl rfl 44 #[.string ⟨#[]⟩, .string ⟨#[]⟩, .int .i64 0, .bool false, .string ⟨#[]⟩, .bool false, .string ⟨#[]⟩, .bool false, .string ⟨#[]⟩, .bool false, .string ⟨#[]⟩] hR4 ainfoC rfl hone.out ?_)
      have hbx : Cel (w4.setRow rb #[.string ⟨who.toArray⟩, .string ⟨pred.toArray⟩, .int .i64 0, .bool false, .string ⟨#[]⟩, .bool false, .string ⟨#[]⟩, .bool false, .string ⟨#[]⟩, .bool false, .string ⟨#[]⟩]) rb #[.string ⟨who.toArray⟩, .string ⟨pred.toArray⟩, .int .i64 0, .bool false, .string ⟨#[]⟩, .bool false, .string ⟨#[]⟩, .bool false, .string ⟨#[]⟩, .bool false, .string ⟨#[]⟩] 44 := hR4.row #[.string ⟨who.toArray⟩, .string ⟨pred.toArray⟩, .int .i64 0, .bool false, .string ⟨#[]⟩, .bool false, .string ⟨#[]⟩, .bool false, .string ⟨#[]⟩, .bool false, .string ⟨#[]⟩]
      have e0 : (w4.setRow rb #[.string ⟨who.toArray⟩, .string ⟨pred.toArray⟩, .int .i64 0, .bool false, .string ⟨#[]⟩, .bool false, .string ⟨#[]⟩, .bool false, .string ⟨#[]⟩, .bool false, .string ⟨#[]⟩]).cell? ⟨rb, 0, none⟩ = some (.string ⟨who.toArray⟩) := hbx.cell 0
      have e1 : (w4.setRow rb #[.string ⟨who.toArray⟩, .string ⟨pred.toArray⟩, .int .i64 0, .bool false, .string ⟨#[]⟩, .bool false, .string ⟨#[]⟩, .bool false, .string ⟨#[]⟩, .bool false, .string ⟨#[]⟩]).cell? ⟨rb, 1, none⟩ = some (.string ⟨pred.toArray⟩) := hbx.cell 1
      have e2 : (w4.setRow rb #[.string ⟨who.toArray⟩, .string ⟨pred.toArray⟩, .int .i64 0, .bool false, .string ⟨#[]⟩, .bool false, .string ⟨#[]⟩, .bool false, .string ⟨#[]⟩, .bool false, .string ⟨#[]⟩]).cell? ⟨rb, 2, none⟩ = some (.int .i64 0) := hbx.cell 2
      have e3 : (w4.setRow rb #[.string ⟨who.toArray⟩, .string ⟨pred.toArray⟩, .int .i64 0, .bool false, .string ⟨#[]⟩, .bool false, .string ⟨#[]⟩, .bool false, .string ⟨#[]⟩, .bool false, .string ⟨#[]⟩]).cell? ⟨rb, 3, none⟩ = some (.bool false) := hbx.cell 3
      have e4 : (w4.setRow rb #[.string ⟨who.toArray⟩, .string ⟨pred.toArray⟩, .int .i64 0, .bool false, .string ⟨#[]⟩, .bool false, .string ⟨#[]⟩, .bool false, .string ⟨#[]⟩, .bool false, .string ⟨#[]⟩]).cell? ⟨rb, 4, none⟩ = some (.string ⟨#[]⟩) := hbx.cell 4
      have e5 : (w4.setRow rb #[.string ⟨who.toArray⟩, .string ⟨pred.toArray⟩, .int .i64 0, .bool false, .string ⟨#[]⟩, .bool false, .string ⟨#[]⟩, .bool false, .string ⟨#[]⟩, .bool false, .string ⟨#[]⟩]).cell? ⟨rb, 5, none⟩ = some (.bool false) := hbx.cell 5
      have e6 : (w4.setRow rb #[.string ⟨who.toArray⟩, .string ⟨pred.toArray⟩, .int .i64 0, .bool false, .string ⟨#[]⟩, .bool false, .string ⟨#[]⟩, .bool false, .string ⟨#[]⟩, .bool false, .string ⟨#[]⟩]).cell? ⟨rb, 6, none⟩ = some (.string ⟨#[]⟩) := hbx.cell 6
      have e7 : (w4.setRow rb #[.string ⟨who.toArray⟩, .string ⟨pred.toArray⟩, .int .i64 0, .bool false, .string ⟨#[]⟩, .bool false, .string ⟨#[]⟩, .bool false, .string ⟨#[]⟩, .bool false, .string ⟨#[]⟩]).cell? ⟨rb, 7, none⟩ = some (.bool false) := hbx.cell 7
      have e8 : (w4.setRow rb #[.string ⟨who.toArray⟩, .string ⟨pred.toArray⟩, .int .i64 0, .bool false, .string ⟨#[]⟩, .bool false, .string ⟨#[]⟩, .bool false, .string ⟨#[]⟩, .bool false, .string ⟨#[]⟩]).cell? ⟨rb, 8, none⟩ = some (.string ⟨#[]⟩) := hbx.cell 8
      have e9 : (w4.setRow rb #[.string ⟨who.toArray⟩, .string ⟨pred.toArray⟩, .int .i64 0, .bool false, .string ⟨#[]⟩, .bool false, .string ⟨#[]⟩, .bool false, .string ⟨#[]⟩, .bool false, .string ⟨#[]⟩]).cell? ⟨rb, 9, none⟩ = some (.bool false) := hbx.cell 9
      have e10 : (w4.setRow rb #[.string ⟨who.toArray⟩, .string ⟨pred.toArray⟩, .int .i64 0, .bool false, .string ⟨#[]⟩, .bool false, .string ⟨#[]⟩, .bool false, .string ⟨#[]⟩, .bool false, .string ⟨#[]⟩]).cell? ⟨rb, 10, none⟩ = some (.string ⟨#[]⟩) := hbx.cell 10
      have hZ5 := row_setRow hR4 (ds := #[.string ⟨who.toArray⟩, .string ⟨pred.toArray⟩, .int .i64 0, .bool false, .string ⟨#[]⟩, .bool false, .string ⟨#[]⟩, .bool false, .string ⟨#[]⟩, .bool false, .string ⟨#[]⟩])
      clear y0 y1 y2 y3 y4 y5 y6 y7 y8 y9 y10 hone
      go_wp2_with fail
      refine bodyPost_ret (v := .agg #[.string ⟨who.toArray⟩, .string ⟨pred.toArray⟩, .int .i64 0, .bool false, .string ⟨#[]⟩, .bool false, .string ⟨#[]⟩, .bool false, .string ⟨#[]⟩, .bool false, .string ⟨#[]⟩]) (by simp [results, Tryz.results90, go_sem, e0, e1, e2, e3, e4, e5, e6, e7, e8, e9, e10]) rfl ?_
      exact hgood.out _ _ _ HR3.out (prs_z hp4 HRg.out (Nat.le_trans HS0.out hab.out.2.2.2.2.1) hR4 hZ5) (only_new hG4 hZ5 hab.out.2.2.2.2.1)
    | true =>
      obtain ⟨q1, hq1⟩ : ∃ q, Hid (q = r1.drop 1) := ⟨_, rfl⟩
      have HS2 : Hid (Calls Tryz.prog 92 #[.pointer (some ⟨g, 0, none⟩), .string ⟨#[40]⟩] w3 fun e w' => e = .returned (.bool true) ∧ Prs w0 w' g lv L n q1 c3 c4 c5 c6 c7 c8 c9 c10 ∧ OnlyG g w3 w') := by rw [hq1.out]; exact HSK.out
      have HR3 : Hid (R = match eachT termStep (atom0 who pred) q1 with
        | .error e => .error e
        | .ok (a, r2) => match mustT [41] r2 with
          | .error e => .error e
          | .ok r3 => .ok (a, r3)) := by rw [hq1.out]; exact HR2.out
      clear HSK HR2 hb hp3 hq1
      go_wp2_with fail
      refine HS2.out.mono ?_
      rintro e w4 ⟨rfl, hp4, hk4⟩
      have hA4 := hk4.cel hA3 hab.out.2.2.2.2.2.2
      have hR4 := hk4.cel hR3 HRg.out
      have hP4 := hk4.cel hP3 HPg.out
      have hG4 := only_only hG3 hk4
      have p4 : w4.cell? ⟨pb, 0, none⟩ = some (.pointer (some ⟨g, 0, none⟩)) := hP4.cell 0
      have HEA := Lib.hid (peach_any (L := L) (n := n) 110 #[.pointer (some ⟨pb, 0, none⟩), .pointer (some ⟨ab, 0, none⟩)] termStep termStep_eats ab (fun a _ W => SaidI g pb ab a W)
        (fun s _ W W' hi hk => ⟨hk.cel hi.1 HPg.out, hk.cel hi.2.1 hab.out.2.2.2.2.2.2, hi.2.2⟩) (fun _ _ _ h => h) (fun _ _ => by kernel_rfl)
        (fun s r W hp hi _ => by
          obtain ⟨a_s, a_p, a_n, ⟨a_v0, a_l0⟩, ⟨a_v1, a_l1⟩, ⟨a_v2, a_l2⟩, ⟨a_v3, a_l3⟩⟩ := s
          exact psaid1_any pb ab ab hab.out.2.2.2.1 (Nat.le_refl _) a_s a_p a_n a_v0 a_v1 a_v2 a_v3 a_l0 a_l1 a_l2 a_l3 r W hp hi)
        (atom0 who pred) q1 w4 hp4 ⟨hP4, hA4, Int.le_refl 0, by show (0 : Int) ≤ 4; decide⟩ (Nat.le_of_lt hA4.lt))
      clear HS2 p3 hP3 hA3 hR3 hk4 hG3 hA4 hP4 hp4
      cases he : eachT termStep (atom0 who pred) q1 with
      | error x =>
        obtain ⟨k, er⟩ := x
        have hHE := HEA.out
        rw [he] at hHE
        have HE2 : Hid (Calls Tryz.prog 87 #[.pointer (some ⟨g, 0, none⟩), .func (.func 110) #[] #[.pointer (some ⟨pb, 0, none⟩), .pointer (some ⟨ab, 0, none⟩)]] w4 fun e w' => e = .panicked [FlawE (placeK L n k) er] ∧ OnlyZ g ab w4 w') := hHE
        have hRR := HR3.out
        rw [he] at hRR
        have HR4 : Hid (R = .error (k, er)) := hRR
        clear HEA hHE he HR3 hRR
        go_wp2_with fail
        refine HE2.out.mono ?_
        rintro e w5 ⟨rfl, hk5⟩
        go_wp2_with fail
        exact ⟨rfl, hbad.out _ _ _ HR4.out (only_z hG4 hk5 hab.out.2.2.1)⟩
      | ok x =>
        obtain ⟨⟨a_s, a_p, a_n, ⟨a_v0, a_l0⟩, ⟨a_v1, a_l1⟩, ⟨a_v2, a_l2⟩, ⟨a_v3, a_l3⟩⟩, r2⟩ := x
        have hHE := HEA.out
        rw [he] at hHE
        have HE2 : Hid (Calls Tryz.prog 87 #[.pointer (some ⟨g, 0, none⟩), .func (.func 110) #[] #[.pointer (some ⟨pb, 0, none⟩), .pointer (some ⟨ab, 0, none⟩)]] w4 fun e w' => e = .returned (.tuple #[]) ∧ Prs w0 w' g lv L n r2 c3 c4 c5 c6 c7 c8 c9 c10 ∧ SaidI g pb ab ((a_s, a_p, a_n, (a_v0, a_l0), (a_v1, a_l1), (a_v2, a_l2), (a_v3, a_l3)) : Atm) w' ∧ OnlyZ g ab w4 w') := hHE
        have hRR := HR3.out
        rw [he] at hRR
        have HR4 : Hid (R = match mustT [41] r2 with
          | .error e => .error e
          | .ok r3 => .ok (((a_s, a_p, a_n, (a_v0, a_l0), (a_v1, a_l1), (a_v2, a_l2), (a_v3, a_l3)) : Atm), r3)) := hRR
        clear HEA hHE he HR3 hRR
        go_wp2_with fail
        refine HE2.out.mono ?_
        rintro e w5 ⟨rfl, hp5, ⟨hP5, hA5, _, _⟩, hk5⟩
        have hR5 := hk5.cel hR4 (fun hx => hx.elim HRg.out (fun hd => by have := hab.out.2.1; omega))
        have hG5 := only_z hG4 hk5 hab.out.2.2.1
        have p5 : w5.cell? ⟨pb, 0, none⟩ = some (.pointer (some ⟨g, 0, none⟩)) := hP5.cell 0
        have HMU := Lib.hid (pmust_here [41] hp5 (by decide))
        clear HE2 p4 hR4 hk5 hG4 hP5 hp5
        cases hm : mustT [41] r2 with
        | error x =>
          obtain ⟨k, er⟩ := x
          have hHM := HMU.out
          rw [hm] at hHM
          have HM2 : Hid (Calls Tryz.prog 66 #[.pointer (some ⟨g, 0, none⟩), .string ⟨#[41]⟩] w5 fun e w' => e = .panicked [FlawE (placeK L n k) er] ∧ OnlyG g w5 w') := hHM
          have hRR := HR4.out
          rw [hm] at hRR
          have HR5 : Hid (R = .error (k, er)) := hRR
          clear HMU hHM hm HR4 hRR hA5 hR5
          go_wp2_with fail
          refine HM2.out.mono ?_
          rintro e w6 ⟨rfl, hk6⟩
          go_wp2_with fail
          exact ⟨rfl, hbad.out _ _ _ HR5.out (only_only hG5 hk6)⟩
        | ok r3 =>
          have hHM := HMU.out
          rw [hm] at hHM
          have HM2 : Hid (Calls Tryz.prog 66 #[.pointer (some ⟨g, 0, none⟩), .string ⟨#[41]⟩] w5 fun e w' => e = .returned (.tuple #[]) ∧ Prs w0 w' g lv L n r3 c3 c4 c5 c6 c7 c8 c9 c10 ∧ OnlyG g w5 w') := hHM
          have hRR := HR4.out
          rw [hm] at hRR
          have HR5 : Hid (R = .ok (((a_s, a_p, a_n, (a_v0, a_l0), (a_v1, a_l1), (a_v2, a_l2), (a_v3, a_l3)) : Atm), r3)) := hRR
          clear HMU hHM hm HR4 hRR
          go_wp2_with fail
          refine HM2.out.mono ?_
          rintro e w6 ⟨rfl, hp6, hk6⟩
          have hA6 := hk6.cel hA5 hab.out.2.2.2.2.2.2
          have hR6 := hk6.cel hR5 HRg.out
          have hG6 := only_only hG5 hk6
          have y0 : (w6).cell? ⟨ab, 0, none⟩ = some (.string ⟨a_s.toArray⟩) := hA6.cell 0
          have y1 : (w6).cell? ⟨ab, 1, none⟩ = some (.string ⟨a_p.toArray⟩) := hA6.cell 1
          have y2 : (w6).cell? ⟨ab, 2, none⟩ = some (.int .i64 a_n) := hA6.cell 2
          have y3 : (w6).cell? ⟨ab, 3, none⟩ = some (.bool a_v0) := hA6.cell 3
          have y4 : (w6).cell? ⟨ab, 4, none⟩ = some (.string ⟨a_l0.toArray⟩) := hA6.cell 4
          have y5 : (w6).cell? ⟨ab, 5, none⟩ = some (.bool a_v1) := hA6.cell 5
          have y6 : (w6).cell? ⟨ab, 6, none⟩ = some (.string ⟨a_l1.toArray⟩) := hA6.cell 6
          have y7 : (w6).cell? ⟨ab, 7, none⟩ = some (.bool a_v2) := hA6.cell 7
          have y8 : (w6).cell? ⟨ab, 8, none⟩ = some (.string ⟨a_l2.toArray⟩) := hA6.cell 8
          have y9 : (w6).cell? ⟨ab, 9, none⟩ = some (.bool a_v3) := hA6.cell 9
          have y10 : (w6).cell? ⟨ab, 10, none⟩ = some (.string ⟨a_l3.toArray⟩) := hA6.cell 10
          have hone : Hid (((#[.string ⟨a_s.toArray⟩, .string ⟨a_p.toArray⟩, .int .i64 a_n, .bool a_v0, .string ⟨a_l0.toArray⟩, .bool a_v1, .string ⟨a_l1.toArray⟩, .bool a_v2, .string ⟨a_l2.toArray⟩, .bool a_v3, .string ⟨a_l3.toArray⟩] : Array Value).all (·.oneCell')) = true) := by show _ = _; simp [Value.oneCell']
          clear HM2 p5 hA5 hR5 hk6 hG5
          go_wp2_with (refine wpList_store_row rfl 44 (.tmp 4) (.tmp 19) rfl rb #[.string ⟨a_s.toArray⟩, .string ⟨a_p.toArray⟩, .int .i64 a_n, .bool a_v0, .string ⟨a_l0.toArray⟩, .bool a_v1, .string ⟨a_l1.toArray⟩, .bool a_v2, .string ⟨a_l2.toArray⟩, .bool a_v3, .string ⟨a_l3.toArray⟩] rfl rfl 44 #[.string ⟨#[]⟩, .string ⟨#[]⟩, .int .i64 0, .bool false, .string ⟨#[]⟩, .bool false, .string ⟨#[]⟩, .bool false, .string ⟨#[]⟩, .bool false, .string ⟨#[]⟩] hR6 ainfoC rfl hone.out ?_)
          have hbx : Cel (w6.setRow rb #[.string ⟨a_s.toArray⟩, .string ⟨a_p.toArray⟩, .int .i64 a_n, .bool a_v0, .string ⟨a_l0.toArray⟩, .bool a_v1, .string ⟨a_l1.toArray⟩, .bool a_v2, .string ⟨a_l2.toArray⟩, .bool a_v3, .string ⟨a_l3.toArray⟩]) rb #[.string ⟨a_s.toArray⟩, .string ⟨a_p.toArray⟩, .int .i64 a_n, .bool a_v0, .string ⟨a_l0.toArray⟩, .bool a_v1, .string ⟨a_l1.toArray⟩, .bool a_v2, .string ⟨a_l2.toArray⟩, .bool a_v3, .string ⟨a_l3.toArray⟩] 44 := hR6.row #[.string ⟨a_s.toArray⟩, .string ⟨a_p.toArray⟩, .int .i64 a_n, .bool a_v0, .string ⟨a_l0.toArray⟩, .bool a_v1, .string ⟨a_l1.toArray⟩, .bool a_v2, .string ⟨a_l2.toArray⟩, .bool a_v3, .string ⟨a_l3.toArray⟩]
          have e0 : (w6.setRow rb #[.string ⟨a_s.toArray⟩, .string ⟨a_p.toArray⟩, .int .i64 a_n, .bool a_v0, .string ⟨a_l0.toArray⟩, .bool a_v1, .string ⟨a_l1.toArray⟩, .bool a_v2, .string ⟨a_l2.toArray⟩, .bool a_v3, .string ⟨a_l3.toArray⟩]).cell? ⟨rb, 0, none⟩ = some (.string ⟨a_s.toArray⟩) := hbx.cell 0
          have e1 : (w6.setRow rb #[.string ⟨a_s.toArray⟩, .string ⟨a_p.toArray⟩, .int .i64 a_n, .bool a_v0, .string ⟨a_l0.toArray⟩, .bool a_v1, .string ⟨a_l1.toArray⟩, .bool a_v2, .string ⟨a_l2.toArray⟩, .bool a_v3, .string ⟨a_l3.toArray⟩]).cell? ⟨rb, 1, none⟩ = some (.string ⟨a_p.toArray⟩) := hbx.cell 1
          have e2 : (w6.setRow rb #[.string ⟨a_s.toArray⟩, .string ⟨a_p.toArray⟩, .int .i64 a_n, .bool a_v0, .string ⟨a_l0.toArray⟩, .bool a_v1, .string ⟨a_l1.toArray⟩, .bool a_v2, .string ⟨a_l2.toArray⟩, .bool a_v3, .string ⟨a_l3.toArray⟩]).cell? ⟨rb, 2, none⟩ = some (.int .i64 a_n) := hbx.cell 2
          have e3 : (w6.setRow rb #[.string ⟨a_s.toArray⟩, .string ⟨a_p.toArray⟩, .int .i64 a_n, .bool a_v0, .string ⟨a_l0.toArray⟩, .bool a_v1, .string ⟨a_l1.toArray⟩, .bool a_v2, .string ⟨a_l2.toArray⟩, .bool a_v3, .string ⟨a_l3.toArray⟩]).cell? ⟨rb, 3, none⟩ = some (.bool a_v0) := hbx.cell 3
          have e4 : (w6.setRow rb #[.string ⟨a_s.toArray⟩, .string ⟨a_p.toArray⟩, .int .i64 a_n, .bool a_v0, .string ⟨a_l0.toArray⟩, .bool a_v1, .string ⟨a_l1.toArray⟩, .bool a_v2, .string ⟨a_l2.toArray⟩, .bool a_v3, .string ⟨a_l3.toArray⟩]).cell? ⟨rb, 4, none⟩ = some (.string ⟨a_l0.toArray⟩) := hbx.cell 4
          have e5 : (w6.setRow rb #[.string ⟨a_s.toArray⟩, .string ⟨a_p.toArray⟩, .int .i64 a_n, .bool a_v0, .string ⟨a_l0.toArray⟩, .bool a_v1, .string ⟨a_l1.toArray⟩, .bool a_v2, .string ⟨a_l2.toArray⟩, .bool a_v3, .string ⟨a_l3.toArray⟩]).cell? ⟨rb, 5, none⟩ = some (.bool a_v1) := hbx.cell 5
          have e6 : (w6.setRow rb #[.string ⟨a_s.toArray⟩, .string ⟨a_p.toArray⟩, .int .i64 a_n, .bool a_v0, .string ⟨a_l0.toArray⟩, .bool a_v1, .string ⟨a_l1.toArray⟩, .bool a_v2, .string ⟨a_l2.toArray⟩, .bool a_v3, .string ⟨a_l3.toArray⟩]).cell? ⟨rb, 6, none⟩ = some (.string ⟨a_l1.toArray⟩) := hbx.cell 6
          have e7 : (w6.setRow rb #[.string ⟨a_s.toArray⟩, .string ⟨a_p.toArray⟩, .int .i64 a_n, .bool a_v0, .string ⟨a_l0.toArray⟩, .bool a_v1, .string ⟨a_l1.toArray⟩, .bool a_v2, .string ⟨a_l2.toArray⟩, .bool a_v3, .string ⟨a_l3.toArray⟩]).cell? ⟨rb, 7, none⟩ = some (.bool a_v2) := hbx.cell 7
          have e8 : (w6.setRow rb #[.string ⟨a_s.toArray⟩, .string ⟨a_p.toArray⟩, .int .i64 a_n, .bool a_v0, .string ⟨a_l0.toArray⟩, .bool a_v1, .string ⟨a_l1.toArray⟩, .bool a_v2, .string ⟨a_l2.toArray⟩, .bool a_v3, .string ⟨a_l3.toArray⟩]).cell? ⟨rb, 8, none⟩ = some (.string ⟨a_l2.toArray⟩) := hbx.cell 8
          have e9 : (w6.setRow rb #[.string ⟨a_s.toArray⟩, .string ⟨a_p.toArray⟩, .int .i64 a_n, .bool a_v0, .string ⟨a_l0.toArray⟩, .bool a_v1, .string ⟨a_l1.toArray⟩, .bool a_v2, .string ⟨a_l2.toArray⟩, .bool a_v3, .string ⟨a_l3.toArray⟩]).cell? ⟨rb, 9, none⟩ = some (.bool a_v3) := hbx.cell 9
          have e10 : (w6.setRow rb #[.string ⟨a_s.toArray⟩, .string ⟨a_p.toArray⟩, .int .i64 a_n, .bool a_v0, .string ⟨a_l0.toArray⟩, .bool a_v1, .string ⟨a_l1.toArray⟩, .bool a_v2, .string ⟨a_l2.toArray⟩, .bool a_v3, .string ⟨a_l3.toArray⟩]).cell? ⟨rb, 10, none⟩ = some (.string ⟨a_l3.toArray⟩) := hbx.cell 10
          have hZ7 := row_setRow hR6 (ds := #[.string ⟨a_s.toArray⟩, .string ⟨a_p.toArray⟩, .int .i64 a_n, .bool a_v0, .string ⟨a_l0.toArray⟩, .bool a_v1, .string ⟨a_l1.toArray⟩, .bool a_v2, .string ⟨a_l2.toArray⟩, .bool a_v3, .string ⟨a_l3.toArray⟩])
          clear y0 y1 y2 y3 y4 y5 y6 y7 y8 y9 y10 hone
          go_wp2_with fail
          refine bodyPost_ret (v := .agg #[.string ⟨a_s.toArray⟩, .string ⟨a_p.toArray⟩, .int .i64 a_n, .bool a_v0, .string ⟨a_l0.toArray⟩, .bool a_v1, .string ⟨a_l1.toArray⟩, .bool a_v2, .string ⟨a_l2.toArray⟩, .bool a_v3, .string ⟨a_l3.toArray⟩]) (by simp [results, Tryz.results90, go_sem, e0, e1, e2, e3, e4, e5, e6, e7, e8, e9, e10]) rfl ?_
          exact hgood.out _ _ _ HR5.out (prs_z hp6 HRg.out (Nat.le_trans HS0.out hab.out.2.2.2.2.1) hR6 hZ7) (only_new hG6 hZ7 hab.out.2.2.2.2.1)
end Go.Proofs.YtnfjjckbgnieeaaGreatDoor

namespace Go.Proofs.YtnfjjckbgnieeaaGreatDoor
open Go.RowKit

set_option maxHeartbeats 4000000 in
set_option maxRecDepth 100000 in
theorem patom_any {w0 : World} {g : Nat} {lv : Value} {L : List Tk} {n : Nat} {c3 c4 c5 c6 c7 c8 c9 c10 : Value} (r : Toks) (w : World) (h : Prs w0 w g lv L n r c3 c4 c5 c6 c7 c8 c9 c10) :
    Calls Tryz.prog 73 #[.pointer (some ⟨g, 0, none⟩)] w (POut w0 w g lv L n c3 c4 c5 c6 c7 c8 c9 c10 (fun a => .agg (atmC a)) (atomT r)) := by
  obtain ⟨R, hR⟩ : ∃ R, Hid (R = atomT r) := ⟨_, rfl⟩
  obtain ⟨K, hK⟩ : ∃ K : Ending → World → Prop, Hid (K = POut w0 w g lv L n c3 c4 c5 c6 c7 c8 c9 c10 (fun a => .agg (atmC a)) R) := ⟨_, rfl⟩
  have hbad : Hid (∀ k er w', R = .error (k, er) → OnlyG g w w' → K (.panicked [FlawE (placeK L n k) er]) w') := fun k er w' e h => by rw [hK.out, e]; exact ⟨rfl, h⟩
  have hgood : Hid (∀ a r1 w', R = .ok (a, r1) → Prs w0 w' g lv L n r1 c3 c4 c5 c6 c7 c8 c9 c10 → OnlyG g w w' → K (.returned (.agg (atmC a))) w') := fun a r1 w' e h1 h2 => by rw [hK.out, e]; exact ⟨rfl, h1, h2⟩
  rw [← hR.out, ← hK.out]
  clear hK
  have hSb : Since w (w.alloc (.cells #[.string ⟨#[]⟩, .string ⟨#[]⟩, .int .i64 0, .bool false, .string ⟨#[]⟩, .bool false, .string ⟨#[]⟩, .bool false, .string ⟨#[]⟩, .bool false, .string ⟨#[]⟩] 44)) := (Since.refl w).alloc _
  have hRb : Cel (w.alloc (.cells #[.string ⟨#[]⟩, .string ⟨#[]⟩, .int .i64 0, .bool false, .string ⟨#[]⟩, .bool false, .string ⟨#[]⟩, .bool false, .string ⟨#[]⟩, .bool false, .string ⟨#[]⟩] 44)) w.heap.size #[.string ⟨#[]⟩, .string ⟨#[]⟩, .int .i64 0, .bool false, .string ⟨#[]⟩, .bool false, .string ⟨#[]⟩, .bool false, .string ⟨#[]⟩, .bool false, .string ⟨#[]⟩] 44 := heap_alloc_new w _
  have hgl := h.par.cel.lt
  have HRg : Hid (¬ w.heap.size = g) := by show ¬ _; omega
  have HS0 := Lib.hid h.sin.size
  have h1 := h.next hSb
  clear h hgl
  go_enter Tryz.func73, Tryz.ntmps73
  go_upto_region 1 with (fail)
  generalize (w.alloc (.cells #[.string ⟨#[]⟩, .string ⟨#[]⟩, .int .i64 0, .bool false, .string ⟨#[]⟩, .bool false, .string ⟨#[]⟩, .bool false, .string ⟨#[]⟩, .bool false, .string ⟨#[]⟩] 44)) = w1 at *
  obtain ⟨rb, hrb⟩ : ∃ x, Hid (x = w.heap.size) := ⟨_, rfl⟩
  have HRB : Hid (w.heap.size ≤ rb) := by show _ ≤ _; rw [hrb.out]; exact Nat.le_refl _
  simp only [← hrb.out]
  rw [← hrb.out] at hRb HRg
  replace HS0 : Hid (w0.heap.size ≤ rb) := Nat.le_trans HS0.out HRB.out
  clear hrb
  have HNM := Lib.hid (pprinc_here h1)
  have HX := Lib.hid hSb
  clear h1 hSb
  cases hnm : nameT principalB r with
  | error x =>
    obtain ⟨k, er⟩ := x
    have hH := HNM.out
    rw [hnm] at hH
    have HN2 : Hid (Calls Tryz.prog 83 #[.pointer (some ⟨g, 0, none⟩), .func (.func 84) #[] #[]] w1 fun e w' => e = .panicked [FlawE (placeK L n k) er] ∧ OnlyG g w1 w') := hH
    have hr : Hid (R = .error (k, er)) := by show _ = _; rw [hR.out, atomT, hnm]
    clear HNM hH hnm hR hRb
    go_wp2_with fail
    refine HN2.out.mono ?_
    rintro e w2 ⟨rfl, hk⟩
    go_wp2_with fail
    exact ⟨rfl, hbad.out _ _ _ hr.out (only_since HX.out hk)⟩
  | ok x =>
    obtain ⟨who, r1⟩ := x
    have hH := HNM.out
    rw [hnm] at hH
    have HN2 : Hid (Calls Tryz.prog 83 #[.pointer (some ⟨g, 0, none⟩), .func (.func 84) #[] #[]] w1 fun e w' => e = .returned (.string ⟨who.toArray⟩) ∧ Prs w0 w' g lv L n r1 c3 c4 c5 c6 c7 c8 c9 c10 ∧ OnlyG g w1 w') := hH
    have HR2 : Hid (R = match mustT wSays r1 with
      | .error e => .error e
      | .ok r2 => saidT who r2) := by show _ = _; rw [hR.out, atomT, hnm]; rfl
    clear HNM hH hnm hR
    go_wp2_with fail
    refine HN2.out.mono ?_
    rintro e w2 ⟨rfl, hp2, hk2⟩
    have hR2 := hk2.cel hRb HRg.out
    have hG2 := only_since HX.out hk2
    have HMU := Lib.hid (pmust_here wSays hp2 (by decide))
    clear HN2 HX hRb hk2 hp2
    cases hm : mustT wSays r1 with
    | error x =>
      obtain ⟨k, er⟩ := x
      have hHM := HMU.out
      rw [hm] at hHM
      have HM2 : Hid (Calls Tryz.prog 66 #[.pointer (some ⟨g, 0, none⟩), .string ⟨#[115, 97, 121, 115]⟩] w2 fun e w' => e = .panicked [FlawE (placeK L n k) er] ∧ OnlyG g w2 w') := hHM
      have hRR := HR2.out
      rw [hm] at hRR
      have HR5 : Hid (R = .error (k, er)) := hRR
      clear HMU hHM hm HR2 hRR hR2
      go_wp2_with fail
      refine HM2.out.mono ?_
      rintro e w6 ⟨rfl, hk6⟩
      go_wp2_with fail
      exact ⟨rfl, hbad.out _ _ _ HR5.out (only_only hG2 hk6)⟩
    | ok r2 =>
      have hHM := HMU.out
      rw [hm] at hHM
      have HM2 : Hid (Calls Tryz.prog 66 #[.pointer (some ⟨g, 0, none⟩), .string ⟨#[115, 97, 121, 115]⟩] w2 fun e w' => e = .returned (.tuple #[]) ∧ Prs w0 w' g lv L n r2 c3 c4 c5 c6 c7 c8 c9 c10 ∧ OnlyG g w2 w') := hHM
      have hRR := HR2.out
      rw [hm] at hRR
      have HR5 : Hid (R = saidT who r2) := hRR
      clear HMU hHM hm HR2 hRR
      go_wp2_with fail
      refine HM2.out.mono ?_
      rintro e w3 ⟨rfl, hp3, hk3⟩
      have hR3 := hk3.cel hR2 HRg.out
      have hG3 := only_only hG2 hk3
      have HSA := Lib.hid (psaid_any who r2 w3 hp3)
      clear HM2 hR2 hG2 hk3 hp3
      cases hs : saidT who r2 with
      | error x =>
        obtain ⟨k, er⟩ := x
        have hHS := HSA.out
        rw [hs] at hHS
        have HS2 : Hid (Calls Tryz.prog 90 #[.pointer (some ⟨g, 0, none⟩), .string ⟨who.toArray⟩] w3 fun e w' => e = .panicked [FlawE (placeK L n k) er] ∧ OnlyG g w3 w') := hHS
        have HR6 : Hid (R = .error (k, er)) := by rw [← hs]; exact HR5.out
        clear HSA hHS hs HR5 hR3
        go_wp2_with fail
        refine HS2.out.mono ?_
        rintro e w6 ⟨rfl, hk6⟩
        go_wp2_with fail
        exact ⟨rfl, hbad.out _ _ _ HR6.out (only_only hG3 hk6)⟩
      | ok x =>
        obtain ⟨⟨a_s, a_p, a_n, ⟨a_v0, a_l0⟩, ⟨a_v1, a_l1⟩, ⟨a_v2, a_l2⟩, ⟨a_v3, a_l3⟩⟩, r3⟩ := x
        have hHS := HSA.out
        rw [hs] at hHS
        have HS2 : Hid (Calls Tryz.prog 90 #[.pointer (some ⟨g, 0, none⟩), .string ⟨who.toArray⟩] w3 fun e w' => e = .returned (.agg #[.string ⟨a_s.toArray⟩, .string ⟨a_p.toArray⟩, .int .i64 a_n, .bool a_v0, .string ⟨a_l0.toArray⟩, .bool a_v1, .string ⟨a_l1.toArray⟩, .bool a_v2, .string ⟨a_l2.toArray⟩, .bool a_v3, .string ⟨a_l3.toArray⟩]) ∧ Prs w0 w' g lv L n r3 c3 c4 c5 c6 c7 c8 c9 c10 ∧ OnlyG g w3 w') := hHS
        have HR6 : Hid (R = .ok (((a_s, a_p, a_n, (a_v0, a_l0), (a_v1, a_l1), (a_v2, a_l2), (a_v3, a_l3)) : Atm), r3)) := by rw [← hs]; exact HR5.out
        clear HSA hHS hs HR5
        go_wp2_with fail
        refine HS2.out.mono ?_
        rintro e w6 ⟨rfl, hp6, hk6⟩
        have hR6 := hk6.cel hR3 HRg.out
        have hG6 := only_only hG3 hk6
        have hone : Hid (((#[.string ⟨a_s.toArray⟩, .string ⟨a_p.toArray⟩, .int .i64 a_n, .bool a_v0, .string ⟨a_l0.toArray⟩, .bool a_v1, .string ⟨a_l1.toArray⟩, .bool a_v2, .string ⟨a_l2.toArray⟩, .bool a_v3, .string ⟨a_l3.toArray⟩] : Array Value).all (·.oneCell')) = true) := by show _ = _; simp [Value.oneCell']
        clear HS2 hR3 hk6 hG3
        go_wp2_with (refine wpList_store_row rfl 44 (.tmp 2) (.tmp 10) rfl rb #[.string ⟨a_s.toArray⟩, .string ⟨a_p.toArray⟩, .int .i64 a_n, .bool a_v0, .string ⟨a_l0.toArray⟩, .bool a_v1, .string ⟨a_l1.toArray⟩, .bool a_v2, .string ⟨a_l2.toArray⟩, .bool a_v3, .string ⟨a_l3.toArray⟩] rfl rfl 44 #[.string ⟨#[]⟩, .string ⟨#[]⟩, .int .i64 0, .bool false, .string ⟨#[]⟩, .bool false, .string ⟨#[]⟩, .bool false, .string ⟨#[]⟩, .bool false, .string ⟨#[]⟩] hR6 ainfoC rfl hone.out ?_)
        have hbx : Cel (w6.setRow rb #[.string ⟨a_s.toArray⟩, .string ⟨a_p.toArray⟩, .int .i64 a_n, .bool a_v0, .string ⟨a_l0.toArray⟩, .bool a_v1, .string ⟨a_l1.toArray⟩, .bool a_v2, .string ⟨a_l2.toArray⟩, .bool a_v3, .string ⟨a_l3.toArray⟩]) rb #[.string ⟨a_s.toArray⟩, .string ⟨a_p.toArray⟩, .int .i64 a_n, .bool a_v0, .string ⟨a_l0.toArray⟩, .bool a_v1, .string ⟨a_l1.toArray⟩, .bool a_v2, .string ⟨a_l2.toArray⟩, .bool a_v3, .string ⟨a_l3.toArray⟩] 44 := hR6.row #[.string ⟨a_s.toArray⟩, .string ⟨a_p.toArray⟩, .int .i64 a_n, .bool a_v0, .string ⟨a_l0.toArray⟩, .bool a_v1, .string ⟨a_l1.toArray⟩, .bool a_v2, .string ⟨a_l2.toArray⟩, .bool a_v3, .string ⟨a_l3.toArray⟩]
        have e0 : (w6.setRow rb #[.string ⟨a_s.toArray⟩, .string ⟨a_p.toArray⟩, .int .i64 a_n, .bool a_v0, .string ⟨a_l0.toArray⟩, .bool a_v1, .string ⟨a_l1.toArray⟩, .bool a_v2, .string ⟨a_l2.toArray⟩, .bool a_v3, .string ⟨a_l3.toArray⟩]).cell? ⟨rb, 0, none⟩ = some (.string ⟨a_s.toArray⟩) := hbx.cell 0
        have e1 : (w6.setRow rb #[.string ⟨a_s.toArray⟩, .string ⟨a_p.toArray⟩, .int .i64 a_n, .bool a_v0, .string ⟨a_l0.toArray⟩, .bool a_v1, .string ⟨a_l1.toArray⟩, .bool a_v2, .string ⟨a_l2.toArray⟩, .bool a_v3, .string ⟨a_l3.toArray⟩]).cell? ⟨rb, 1, none⟩ = some (.string ⟨a_p.toArray⟩) := hbx.cell 1
        have e2 : (w6.setRow rb #[.string ⟨a_s.toArray⟩, .string ⟨a_p.toArray⟩, .int .i64 a_n, .bool a_v0, .string ⟨a_l0.toArray⟩, .bool a_v1, .string ⟨a_l1.toArray⟩, .bool a_v2, .string ⟨a_l2.toArray⟩, .bool a_v3, .string ⟨a_l3.toArray⟩]).cell? ⟨rb, 2, none⟩ = some (.int .i64 a_n) := hbx.cell 2
        have e3 : (w6.setRow rb #[.string ⟨a_s.toArray⟩, .string ⟨a_p.toArray⟩, .int .i64 a_n, .bool a_v0, .string ⟨a_l0.toArray⟩, .bool a_v1, .string ⟨a_l1.toArray⟩, .bool a_v2, .string ⟨a_l2.toArray⟩, .bool a_v3, .string ⟨a_l3.toArray⟩]).cell? ⟨rb, 3, none⟩ = some (.bool a_v0) := hbx.cell 3
        have e4 : (w6.setRow rb #[.string ⟨a_s.toArray⟩, .string ⟨a_p.toArray⟩, .int .i64 a_n, .bool a_v0, .string ⟨a_l0.toArray⟩, .bool a_v1, .string ⟨a_l1.toArray⟩, .bool a_v2, .string ⟨a_l2.toArray⟩, .bool a_v3, .string ⟨a_l3.toArray⟩]).cell? ⟨rb, 4, none⟩ = some (.string ⟨a_l0.toArray⟩) := hbx.cell 4
        have e5 : (w6.setRow rb #[.string ⟨a_s.toArray⟩, .string ⟨a_p.toArray⟩, .int .i64 a_n, .bool a_v0, .string ⟨a_l0.toArray⟩, .bool a_v1, .string ⟨a_l1.toArray⟩, .bool a_v2, .string ⟨a_l2.toArray⟩, .bool a_v3, .string ⟨a_l3.toArray⟩]).cell? ⟨rb, 5, none⟩ = some (.bool a_v1) := hbx.cell 5
        have e6 : (w6.setRow rb #[.string ⟨a_s.toArray⟩, .string ⟨a_p.toArray⟩, .int .i64 a_n, .bool a_v0, .string ⟨a_l0.toArray⟩, .bool a_v1, .string ⟨a_l1.toArray⟩, .bool a_v2, .string ⟨a_l2.toArray⟩, .bool a_v3, .string ⟨a_l3.toArray⟩]).cell? ⟨rb, 6, none⟩ = some (.string ⟨a_l1.toArray⟩) := hbx.cell 6
        have e7 : (w6.setRow rb #[.string ⟨a_s.toArray⟩, .string ⟨a_p.toArray⟩, .int .i64 a_n, .bool a_v0, .string ⟨a_l0.toArray⟩, .bool a_v1, .string ⟨a_l1.toArray⟩, .bool a_v2, .string ⟨a_l2.toArray⟩, .bool a_v3, .string ⟨a_l3.toArray⟩]).cell? ⟨rb, 7, none⟩ = some (.bool a_v2) := hbx.cell 7
        have e8 : (w6.setRow rb #[.string ⟨a_s.toArray⟩, .string ⟨a_p.toArray⟩, .int .i64 a_n, .bool a_v0, .string ⟨a_l0.toArray⟩, .bool a_v1, .string ⟨a_l1.toArray⟩, .bool a_v2, .string ⟨a_l2.toArray⟩, .bool a_v3, .string ⟨a_l3.toArray⟩]).cell? ⟨rb, 8, none⟩ = some (.string ⟨a_l2.toArray⟩) := hbx.cell 8
        have e9 : (w6.setRow rb #[.string ⟨a_s.toArray⟩, .string ⟨a_p.toArray⟩, .int .i64 a_n, .bool a_v0, .string ⟨a_l0.toArray⟩, .bool a_v1, .string ⟨a_l1.toArray⟩, .bool a_v2, .string ⟨a_l2.toArray⟩, .bool a_v3, .string ⟨a_l3.toArray⟩]).cell? ⟨rb, 9, none⟩ = some (.bool a_v3) := hbx.cell 9
        have e10 : (w6.setRow rb #[.string ⟨a_s.toArray⟩, .string ⟨a_p.toArray⟩, .int .i64 a_n, .bool a_v0, .string ⟨a_l0.toArray⟩, .bool a_v1, .string ⟨a_l1.toArray⟩, .bool a_v2, .string ⟨a_l2.toArray⟩, .bool a_v3, .string ⟨a_l3.toArray⟩]).cell? ⟨rb, 10, none⟩ = some (.string ⟨a_l3.toArray⟩) := hbx.cell 10
        have hZ7 := row_setRow hR6 (ds := #[.string ⟨a_s.toArray⟩, .string ⟨a_p.toArray⟩, .int .i64 a_n, .bool a_v0, .string ⟨a_l0.toArray⟩, .bool a_v1, .string ⟨a_l1.toArray⟩, .bool a_v2, .string ⟨a_l2.toArray⟩, .bool a_v3, .string ⟨a_l3.toArray⟩])
        clear hone
        go_wp2_with fail
        refine bodyPost_ret (v := .agg #[.string ⟨a_s.toArray⟩, .string ⟨a_p.toArray⟩, .int .i64 a_n, .bool a_v0, .string ⟨a_l0.toArray⟩, .bool a_v1, .string ⟨a_l1.toArray⟩, .bool a_v2, .string ⟨a_l2.toArray⟩, .bool a_v3, .string ⟨a_l3.toArray⟩]) (by simp [results, Tryz.results73, go_sem, e0, e1, e2, e3, e4, e5, e6, e7, e8, e9, e10]) rfl ?_
        exact hgood.out _ _ _ HR6.out (prs_z hp6 HRg.out HS0.out hR6 hZ7) (only_new hG6 hZ7 HRB.out)
end Go.Proofs.YtnfjjckbgnieeaaGreatDoor

namespace Go.Proofs.YtnfjjckbgnieeaaGreatDoor
open Go.RowKit

section
variable {P : Program} {md : Region.Mode} {ops : Array Oper} {Q : Exit → Act → World → Prop} {S : World → Prop} {i j d d' fuel : Nat} {oi oj : Oper} {listed : Array Bool} {L : List Value} {ds : List Deferred} {w : World}
theorem hx_two_vc (v : Value) (w1 : World) (f : FuncId) (args : Array Value) {Rl : Ending → World → Prop} (hi : ops[i]? = some oi) (hj : ops[j]? = some oj) (hr : Region.ready md ops listed = [i, j]) (hwi : Region.wanted oi (yielded ops L.toArray) = true) (hwj : Region.wanted oj (yielded ops L.toArray) = true)
    (hd : oi.dst = some d) (hrun : (execOp (Act.eval ⟨L.toArray, ds⟩) oi).run P w = .ok (.value v) w1) (hS : S w1)
    (hd' : oj.dst = some d') (hrun' : (execOp (Act.eval ⟨L.toArray, ds⟩) oj).run P w = .ok (.enter f args) w) (hc : Calls P f args w Rl)
    (h1 : wpAnyH P md ops Q S fuel (listed.setIfInBounds i true) ⟨(L.set d v).toArray, ds⟩ w1)
    (h2 : ∀ e w', Rl e w' → ∃ v, e = .returned v ∧ S w' ∧ wpAnyH P md ops Q S fuel (listed.setIfInBounds j true) ⟨(L.set d' v).toArray, ds⟩ w') : wpAnyH P md ops Q S (fuel + 1) listed ⟨L.toArray, ds⟩ w :=
  hx_two hi hj hr hwi hwj (wp_value hd hrun ⟨hS, h1⟩) (wp_calls f args hd' hrun' hc fun e w' hR => by
    obtain ⟨v, he, h3, h4⟩ := h2 e w' hR
    exact ⟨v, he, h3, h4⟩)
theorem hx_two_cv (f : FuncId) (args : Array Value) {Rl : Ending → World → Prop} (v : Value) (w1 : World) (hi : ops[i]? = some oi) (hj : ops[j]? = some oj) (hr : Region.ready md ops listed = [i, j]) (hwi : Region.wanted oi (yielded ops L.toArray) = true) (hwj : Region.wanted oj (yielded ops L.toArray) = true)
    (hd' : oi.dst = some d') (hrun' : (execOp (Act.eval ⟨L.toArray, ds⟩) oi).run P w = .ok (.enter f args) w) (hc : Calls P f args w Rl)
    (hd : oj.dst = some d) (hrun : (execOp (Act.eval ⟨L.toArray, ds⟩) oj).run P w = .ok (.value v) w1) (hS : S w1)
    (h2 : ∀ e w', Rl e w' → ∃ v, e = .returned v ∧ S w' ∧ wpAnyH P md ops Q S fuel (listed.setIfInBounds i true) ⟨(L.set d' v).toArray, ds⟩ w')
    (h1 : wpAnyH P md ops Q S fuel (listed.setIfInBounds j true) ⟨(L.set d v).toArray, ds⟩ w1) : wpAnyH P md ops Q S (fuel + 1) listed ⟨L.toArray, ds⟩ w :=
  hx_two hi hj hr hwi hwj (wp_calls f args hd' hrun' hc fun e w' hR => by
    obtain ⟨v, he, h3, h4⟩ := h2 e w' hR
    exact ⟨v, he, h3, h4⟩) (wp_value hd hrun ⟨hS, h1⟩)
theorem hx_two_vv (v : Value) (w1 : World) (v2 : Value) (w2 : World) (hi : ops[i]? = some oi) (hj : ops[j]? = some oj) (hr : Region.ready md ops listed = [i, j]) (hwi : Region.wanted oi (yielded ops L.toArray) = true) (hwj : Region.wanted oj (yielded ops L.toArray) = true)
    (hd : oi.dst = some d) (hrun : (execOp (Act.eval ⟨L.toArray, ds⟩) oi).run P w = .ok (.value v) w1) (hS : S w1)
    (hd' : oj.dst = some d') (hrun' : (execOp (Act.eval ⟨L.toArray, ds⟩) oj).run P w = .ok (.value v2) w2) (hS2 : S w2)
    (h1 : wpAnyH P md ops Q S fuel (listed.setIfInBounds i true) ⟨(L.set d v).toArray, ds⟩ w1)
    (h2 : wpAnyH P md ops Q S fuel (listed.setIfInBounds j true) ⟨(L.set d' v2).toArray, ds⟩ w2) : wpAnyH P md ops Q S (fuel + 1) listed ⟨L.toArray, ds⟩ w :=
  hx_two hi hj hr hwi hwj (wp_value hd hrun ⟨hS, h1⟩) (wp_value hd' hrun' ⟨hS2, h2⟩)
/-- An append to a row of the call's own. -/
theorem hx_append (s x : Operand) (t : TypeId) (base : Nat) (e : TypeId) (ii : TypeInfo) (z : Value) (size bytes : Nat) (v : Value) (n : Nat) (xs : List Value) (B : Nat) (A : Option Addr) (m c : Nat) (news : List Value)
    (hi : ops[i]? = some oi) (hd : oi.dst = some d) (hr : Region.ready md ops listed = [i]) (hw : Region.wanted oi (yielded ops L.toArray) = true)
    (ho : oi.op = .call { callee := .builtin .append, args := #[s, x], argTypes := #[t, t] }) (ht : P.underlying t = some (.slice e)) (hii : P.info? e = some ii) (hz : ii.zero = some z)
    (hsize : ii.size = size) (hby : ii.bytes = bytes) (hzs : z.cells.size = size) (hsz : 0 < size)
    (hs : Act.eval ⟨L.toArray, ds⟩ s = v) (hown : w.ownsRow base e size v n xs)
    (hx : Act.eval ⟨L.toArray, ds⟩ x = .slice A m c) (hrd : Reads w B size A m news) (h1 : ∀ u ∈ news, u.oneCell' = true)
    (h63 : n + m ≤ maxLen) (hbytes : (n + m) * bytes ≤ 140737488355328) (hbase : base ≤ w.heap.size)
    (h : ∀ v' w', w'.ownsRow base e size v' (n + m) (xs ++ news) → w.grownBy w' v.ownBlock → (v'.ownBlock = v.ownBlock ∨ v'.ownBlock = some w.heap.size) → S w' ∧ wpAnyH P md ops Q S fuel (listed.setIfInBounds i true) ⟨(L.set d v').toArray, ds⟩ w') : wpAnyH P md ops Q S (fuel + 1) listed ⟨L.toArray, ds⟩ w :=
  hx_step hi hr hw (wp_append_any w s x t ho base e ii z size bytes ht hii hz hsize hby hzs hsz v n xs hs hown B A m c news hx hrd h1 h63 hbytes hbase fun v' w' a b c => by
    rw [hd, put_list]
    exact h v' w' a b c)
/-- A call that panics. -/
theorem wp_panics {o : Oper} {K : Act → World → Prop} (f : FuncId) (args : Array Value) (ch : List PanicEntry) {F : World → Prop} (hrun : (execOp (Act.eval ⟨L.toArray, ds⟩) o).run P w = .ok (.enter f args) w) (hc : Calls P f args w fun e w' => e = .panicked ch ∧ F w')
    (h : ∀ w', F w' → Q (.panic ch) ⟨L.toArray, ds⟩ w') : Oper.wp P o ⟨L.toArray, ds⟩ w K Q := by
  unfold Oper.wp
  rw [hrun, Oper.upon_enter]
  refine hc.mono fun e w' hR => ?_
  obtain ⟨rfl, h2⟩ := hR
  exact h w' h2
theorem hx_panic (f : FuncId) (args : Array Value) (ch : List PanicEntry) {F : World → Prop} (hi : ops[i]? = some oi) (hr : Region.ready md ops listed = [i]) (hw : Region.wanted oi (yielded ops L.toArray) = true)
    (hrun : (execOp (Act.eval ⟨L.toArray, ds⟩) oi).run P w = .ok (.enter f args) w) (hc : Calls P f args w fun e w' => e = .panicked ch ∧ F w')
    (h : ∀ w', F w' → Q (.panic ch) ⟨L.toArray, ds⟩ w') : wpAnyH P md ops Q S (fuel + 1) listed ⟨L.toArray, ds⟩ w :=
  hx_step hi hr hw (wp_panics f args ch hrun hc h)
theorem hx_two_vp (v : Value) (w1 : World) (f : FuncId) (args : Array Value) (ch : List PanicEntry) {F : World → Prop} (hi : ops[i]? = some oi) (hj : ops[j]? = some oj) (hr : Region.ready md ops listed = [i, j]) (hwi : Region.wanted oi (yielded ops L.toArray) = true) (hwj : Region.wanted oj (yielded ops L.toArray) = true)
    (hd : oi.dst = some d) (hrun : (execOp (Act.eval ⟨L.toArray, ds⟩) oi).run P w = .ok (.value v) w1) (hS : S w1)
    (hrun' : (execOp (Act.eval ⟨L.toArray, ds⟩) oj).run P w = .ok (.enter f args) w) (hc : Calls P f args w fun e w' => e = .panicked ch ∧ F w')
    (h1 : wpAnyH P md ops Q S fuel (listed.setIfInBounds i true) ⟨(L.set d v).toArray, ds⟩ w1)
    (h2 : ∀ w', F w' → Q (.panic ch) ⟨L.toArray, ds⟩ w') : wpAnyH P md ops Q S (fuel + 1) listed ⟨L.toArray, ds⟩ w :=
  hx_two hi hj hr hwi hwj (wp_value hd hrun ⟨hS, h1⟩) (wp_panics f args ch hrun' hc h2)
end
end Go.Proofs.YtnfjjckbgnieeaaGreatDoor

namespace Go.Proofs.YtnfjjckbgnieeaaGreatDoor
open Go.RowKit

/-- What body's closure works on: the parser's variable, the list's cell and row; how many atoms there may be. -/
def BodyI (g pb lb D m : Nat) (l : List Atm) (r : Toks) (W : World) : Prop := Cel W pb #[.pointer (some ⟨g, 0, none⟩)] 80 ∧ (∃ v, Cel W lb #[v] 45 ∧ W.ownsRow D 44 11 v l.length (l.flatMap atmL)) ∧ l.length + r.length ≤ m
theorem BodyI.only {g pb lb D m : Nat} {l : List Atm} {r : Toks} {W W' : World} {w0 : World} {lv : Value} {L : List Tk} {n : Nat} {q : Toks} {c3 c4 c5 c6 c7 c8 c9 c10 : Value} (h : BodyI g pb lb D m l r W) (hk : OnlyG g W W') (hp : Prs w0 W g lv L n q c3 c4 c5 c6 c7 c8 c9 c10) : BodyI g pb lb D m l r W' := by
  obtain ⟨h1, ⟨v, h2, h3⟩, h4⟩ := h
  have e1 : ¬ pb = g := cel_cel_ne h1 hp.par.cel (by decide)
  have e2 : ¬ lb = g := cel_cel_ne h2 hp.par.cel (by decide)
  exact ⟨hk.cel h1 e1, ⟨v, hk.cel h2 e2, hk.own h3 (fun b hb e => cel_own_ne hp.par.cel h3 (by decide) (by rw [hb, e]))⟩, h4⟩
theorem body_fin {w0 w2 w5 w6 : World} {g pb lb D m : Nat} {lv : Value} {L : List Tk} {n : Nat} {r1 : Toks} {c3 c4 c5 c6 c7 c8 c9 c10 v v6 : Value} {l : List Atm} {a : Atm} (h2 : Prs w0 w2 g lv L n r1 c3 c4 c5 c6 c7 c8 c9 c10) (hlo : w0.heap.size ≤ D) (hlb : D ≤ lb)
    (hP2 : Cel w2 pb #[.pointer (some ⟨g, 0, none⟩)] 80) (hL2 : Cel w2 lb #[v] 45) (hO2 : w2.ownsRow D 44 11 v l.length (l.flatMap atmL)) (hs : Since w2 w5) (hg : w5.grownBy w6 v.ownBlock)
    (hown : w6.ownsRow D 44 11 v6 (l.length + 1) (l.flatMap atmL ++ (atmC a).toList)) (hm : l.length + 1 + r1.length ≤ m) :
    Prs w0 (w6.setCell ⟨lb, 0, none⟩ v6) g lv L n r1 c3 c4 c5 c6 c7 c8 c9 c10 ∧ BodyI g pb lb D m (l ++ [a]) r1 (w6.setCell ⟨lb, 0, none⟩ v6) ∧ OnlyZ g D w2 (w6.setCell ⟨lb, 0, none⟩ v6) := by
  have k1 : Keep (fun b => D ≤ b) w2 w6 := (Keep.of_since hs).trans (Keep.of_grown (Z := fun b => D ≤ b) hg (fun b hb => (hO2.lt b hb).1)) (fun _ h => .inl h)
  have k2 : Keep (fun b => D ≤ b) w6 (w6.setCell ⟨lb, 0, none⟩ v6) := Keep.of_grown (grown_setCell w6 lb 0 v6) (fun b hb => by injection hb with hb; rw [← hb]; exact hlb)
  have hO5 := own_since hO2 hs
  have hP6 := cel_own (hP2.next hs) hO5 (by decide) hg
  have hL6 := cel_own (hL2.next hs) hO5 (by decide) hg
  have hG6 := cel_own (h2.par.cel.next hs) hO5 (by decide) hg
  have hT6 := (own_since h2.par.row hs).kept hg (own_kind_apart (own_since h2.par.row hs) hO5 (by decide))
  have g2 := grown_setCell w6 lb 0 v6
  have n1 : ¬ pb = lb := cel_cel_ne hP6 hL6 (by decide)
  have n2 : ¬ g = lb := cel_cel_ne hG6 hL6 (by decide)
  refine ⟨⟨⟨hG6.grown g2 (fun e => n2 (by injection e)), own_setCell hT6 hL6 (by decide), h2.par.suf, h2.par.len⟩, ?_, h2.low, h2.env, h2.fit⟩, ⟨hP6.grown g2 (fun e => n1 (by injection e)), ⟨v6, hL6.set rfl, ?_⟩, ?_⟩, ?_⟩
  · exact (k1.trans k2 (fun _ h => .inl h)).since h2.sin (fun x hx => Nat.le_trans hlo hx)
  · have h9 := own_setCell (j := 0) (u := v6) hown hL6 (by decide)
    rw [List.length_append, List.flatMap_append]
    simpa [atmL] using h9
  · rw [List.length_append, List.length_singleton]; exact hm
  · exact (k1.trans k2 (fun _ h => .inl h)).mono (fun _ h => .inr h)
end Go.Proofs.YtnfjjckbgnieeaaGreatDoor

namespace Go.Proofs.YtnfjjckbgnieeaaGreatDoor
open Go.RowKit

theorem reads_celR {W : World} {g : Nat} {cs : Array Value} {e : TypeId} {K : Nat} (h : Cel W g cs e) (hK : cs.size = K) : Reads W W.heap.size K (some ⟨g, 0, none⟩) 1 cs.toList := by
  refine ⟨by simp [hK], fun _ => ⟨_, rfl, h.lt, fun j u hu => ?_⟩⟩
  rw [add_form, Nat.zero_add, h.cell j, ← hu, Array.getElem?_toList]
theorem info_atms : (Tryz.prog.info? 44).map (fun i => (i.zero, i.size, i.bytes)) = some (some (.agg #[.string ByteArray.empty, .string ByteArray.empty, .int .i64 0, .bool false, .string ByteArray.empty, .bool false, .string ByteArray.empty, .bool false, .string ByteArray.empty, .bool false, .string ByteArray.empty]), 11, 136) := by kernel_rfl
theorem info_parts {P : Program} {t : TypeId} {z : Value} {a b : Nat} (h : (P.info? t).map (fun i => (i.zero, i.size, i.bytes)) = some (some z, a, b)) : ∃ i, P.info? t = some i ∧ i.zero = some z ∧ i.size = a ∧ i.bytes = b := by
  cases hi : P.info? t with
  | none => rw [hi] at h; cases h
  | some i =>
    rw [hi] at h
    simp only [Option.map_some, Option.some.injEq, Prod.mk.injEq] at h
    exact ⟨i, rfl, h.1, h.2.1, h.2.2⟩
theorem st_atl {o : Oper} {x y : Operand} {ev : Operand → Value} {g k : Nat} {a : Option Addr} {n c : Nat} {cs : Array Value} {T : TypeId} (ho : o.op = Op.store 45 x y) (hx : ev x = .pointer (some ⟨g, k, none⟩)) (hy : ev y = .slice a n c) (W : World) (h : Cel W g cs T) (hk : (cs[k]?).isSome = true) :
    (execOp ev o).run Tryz.prog W = .ok .skip (W.setCell ⟨g, k, none⟩ (.slice a n c)) := by
  obtain ⟨u, hu⟩ := Option.isSome_iff_exists.1 hk
  have h1 : W.cell? ⟨g, k, none⟩ = some u := (h.cell k).trans hu
  have h2 := h.free k
  simp only [execOp, ho]
  go_simp
set_option maxHeartbeats 4000000 in
set_option maxRecDepth 100000 in
theorem pbody1_any {w0 : World} {g : Nat} {lv : Value} {L : List Tk} {n : Nat} {c3 c4 c5 c6 c7 c8 c9 c10 : Value} (pb lb D m : Nat) (hlo : w0.heap.size ≤ D) (hlb : D ≤ lb) (hm : m ≤ 100000) (l : List Atm) (r : Toks) (w : World) (h : Prs w0 w g lv L n r c3 c4 c5 c6 c7 c8 c9 c10) (hI : BodyI g pb lb D m l r w) (hDw : D ≤ w.heap.size) :
    Calls Tryz.prog 113 #[.pointer (some ⟨lb, 0, none⟩), .pointer (some ⟨pb, 0, none⟩)] w (EachOut w0 w g lv L n c3 c4 c5 c6 c7 c8 c9 c10 D (fun l r W => BodyI g pb lb D m l r W) (atomStep l r)) := by
  obtain ⟨hP, ⟨v, hL, hO⟩, hmm⟩ := hI
  obtain ⟨va, vc, rfl⟩ := own_slice hO
  obtain ⟨i5, hi5, hz0, hz1, hz2⟩ := info_parts info_atms
  have I5 := Lib.hid (And.intro hi5 (And.intro hz0 (And.intro hz1 hz2)))
  have hpg : ¬ pb = g := cel_cel_ne hP h.par.cel (by decide)
  have hlg : ¬ lb = g := cel_cel_ne hL h.par.cel (by decide)
  have hog : ∀ b, (Value.slice va l.length vc).ownBlock = some b → ¬ b = g := fun b hb e => cel_own_ne h.par.cel hO (by decide) (by rw [hb, e])
  have HA := Lib.hid (patom_any r w.drew (h.next (Since.refl w).drew))
  have HLL : Hid (l.length ≤ 100000) := by show _ ≤ _; omega
  replace hP := hP.next (Since.refl w).drew
  replace hL := hL.next (Since.refl w).drew
  replace hO := own_since hO (Since.refl w).drew
  have HKD : Hid (∀ w', OnlyG g w.drew w' → OnlyG g w w') := fun w' hk => only_since (Since.refl w).drew hk
  have hT : At w.drew pb 0 #[.pointer (some ⟨g, 0, none⟩)] := hP.at
  clear hi5 hz0 hz1 hz2
  cases ha : atomT r with
  | error x =>
    obtain ⟨k, er⟩ := x
    have hH := HA.out
    rw [ha] at hH
    have HA2 : Hid (Calls Tryz.prog 73 #[.pointer (some ⟨g, 0, none⟩)] w.drew fun e w' => e = .panicked [FlawE (placeK L n k) er] ∧ OnlyG g w.drew w') := hH
    have hr : Hid (atomStep l r = .error (k, er)) := by show _ = _; rw [atomStep, ha]
    rw [hr.out]
    have hL0 := hL.cell 0
    clear HA hH ha h hr hO hmm
    go_enter Tryz.func113, Tryz.ntmps113
    go_upto_region 0 with (fail)
    refine hx_begin (S := fun W => At W pb 0 #[.pointer (some ⟨g, 0, none⟩)]) (by kernel_rfl) hT (by kernel_rfl) (fun _ _ _ _ _ h => h) (fun hns hQ => ?_)
    refine hx_take (i := 1) (oi := _) (v := .pointer (some ⟨g, 0, none⟩)) rfl rfl hns (by kernel_rfl) (by kernel_rfl) hQ (by kernel_rfl) (fun W hW => ld_one rfl (by kernel_rfl) (by kernel_rfl) W (hW 0 _ rfl)) hT ?_
    refine hx_two_vp (i := 0) (j := 2) (oi := _) (oj := _) (.slice va l.length vc) w.drew 73 #[.pointer (some ⟨g, 0, none⟩)] [FlawE (placeK L n k) er] rfl rfl (by kernel_rfl) (by kernel_rfl) (by kernel_rfl) rfl (ld_one rfl (by kernel_rfl) (by kernel_rfl) _ hL0) hT (by kernel_rfl) HA2.out ?_ ?_
    · refine hx_panic (i := 2) (oi := _) 73 #[.pointer (some ⟨g, 0, none⟩)] [FlawE (placeK L n k) er] rfl (by kernel_rfl) (by kernel_rfl) (by kernel_rfl) HA2.out ?_
      intro w' hk
      exact ⟨rfl, rfl, (HKD.out _ hk).z⟩
    · intro w' hk
      exact ⟨rfl, rfl, (HKD.out _ hk).z⟩
  | ok x =>
    obtain ⟨⟨a_s, a_p, a_n, ⟨a_v0, a_l0⟩, ⟨a_v1, a_l1⟩, ⟨a_v2, a_l2⟩, ⟨a_v3, a_l3⟩⟩, r1⟩ := x
    have hH := HA.out
    rw [ha] at hH
    have HA2 : Hid (Calls Tryz.prog 73 #[.pointer (some ⟨g, 0, none⟩)] w.drew fun e w' => e = .returned (.agg #[.string ⟨a_s.toArray⟩, .string ⟨a_p.toArray⟩, .int .i64 a_n, .bool a_v0, .string ⟨a_l0.toArray⟩, .bool a_v1, .string ⟨a_l1.toArray⟩, .bool a_v2, .string ⟨a_l2.toArray⟩, .bool a_v3, .string ⟨a_l3.toArray⟩]) ∧ Prs w0 w' g lv L n r1 c3 c4 c5 c6 c7 c8 c9 c10 ∧ OnlyG g w.drew w') := hH
    have hr : Hid (atomStep l r = .ok (l ++ [((a_s, a_p, a_n, (a_v0, a_l0), (a_v1, a_l1), (a_v2, a_l2), (a_v3, a_l3)) : Atm)], r1)) := by show _ = _; rw [atomStep, ha]
    rw [hr.out]
    have hm1 : l.length + 1 + r1.length ≤ m := by
      have := atomStep_eats.len hr.out
      omega
    have hL0 := hL.cell 0
    clear HA hH ha h hr hmm
    go_enter Tryz.func113, Tryz.ntmps113
    go_upto_region 0 with (fail)
    refine hx_begin (S := fun W => At W pb 0 #[.pointer (some ⟨g, 0, none⟩)]) (by kernel_rfl) hT (by kernel_rfl) (fun _ _ _ _ _ h => h) (fun hns hQ => ?_)
    refine hx_take (i := 1) (oi := _) (v := .pointer (some ⟨g, 0, none⟩)) rfl rfl hns (by kernel_rfl) (by kernel_rfl) hQ (by kernel_rfl) (fun W hW => ld_one rfl (by kernel_rfl) (by kernel_rfl) W (hW 0 _ rfl)) hT ?_
    refine hx_two_vc (i := 0) (j := 2) (oi := _) (oj := _) (.slice va l.length vc) w.drew 73 #[.pointer (some ⟨g, 0, none⟩)] rfl rfl (by kernel_rfl) (by kernel_rfl) (by kernel_rfl) rfl (ld_one rfl (by kernel_rfl) (by kernel_rfl) _ hL0) hT rfl (by kernel_rfl) HA2.out ?_ ?_
    · refine hx_call (i := 2) (oi := _) 73 #[.pointer (some ⟨g, 0, none⟩)] rfl rfl (by kernel_rfl) (by kernel_rfl) (by kernel_rfl) HA2.out ?_
      rintro e w2 ⟨rfl, hx2⟩
      obtain ⟨hp2, hk2⟩ := hx2
      have hP2 := hk2.cel hP hpg
      have hL2 := hk2.cel hL hlg
      have hO2 := hk2.own hO hog
      have hT2 : At w2 pb 0 #[.pointer (some ⟨g, 0, none⟩)] := hP2.at
      refine ⟨_, rfl, hT2, ?_⟩
      have hS5 : Since w2 (w2.alloc (.cells #[.string ⟨a_s.toArray⟩, .string ⟨a_p.toArray⟩, .int .i64 a_n, .bool a_v0, .string ⟨a_l0.toArray⟩, .bool a_v1, .string ⟨a_l1.toArray⟩, .bool a_v2, .string ⟨a_l2.toArray⟩, .bool a_v3, .string ⟨a_l3.toArray⟩] 44)) := (Since.refl w2).alloc _
      have hP5 := hP2.next hS5
      have hL5 := hL2.next hS5
      have hO5 := own_since hO2 hS5
      have hRD := reads_celR (heap_alloc_new w2 (.cells #[.string ⟨a_s.toArray⟩, .string ⟨a_p.toArray⟩, .int .i64 a_n, .bool a_v0, .string ⟨a_l0.toArray⟩, .bool a_v1, .string ⟨a_l1.toArray⟩, .bool a_v2, .string ⟨a_l2.toArray⟩, .bool a_v3, .string ⟨a_l3.toArray⟩] 44)) (K := 11) rfl
      have hDD : D ≤ (w2.alloc (.cells #[.string ⟨a_s.toArray⟩, .string ⟨a_p.toArray⟩, .int .i64 a_n, .bool a_v0, .string ⟨a_l0.toArray⟩, .bool a_v1, .string ⟨a_l1.toArray⟩, .bool a_v2, .string ⟨a_l2.toArray⟩, .bool a_v3, .string ⟨a_l3.toArray⟩] 44)).heap.size := Nat.le_trans hDw (Nat.le_trans (HKD.out _ hk2).size hS5.size)
      have hTb : At (w2.alloc (.cells #[.string ⟨a_s.toArray⟩, .string ⟨a_p.toArray⟩, .int .i64 a_n, .bool a_v0, .string ⟨a_l0.toArray⟩, .bool a_v1, .string ⟨a_l1.toArray⟩, .bool a_v2, .string ⟨a_l2.toArray⟩, .bool a_v3, .string ⟨a_l3.toArray⟩] 44)) pb 0 #[.pointer (some ⟨g, 0, none⟩)] := hP5.at
      refine hx_make (i := 3) (oi := _) (.slice (some ⟨w2.heap.size, 0, none⟩) 1 1) (w2.alloc (.cells #[.string ⟨a_s.toArray⟩, .string ⟨a_p.toArray⟩, .int .i64 a_n, .bool a_v0, .string ⟨a_l0.toArray⟩, .bool a_v1, .string ⟨a_l1.toArray⟩, .bool a_v2, .string ⟨a_l2.toArray⟩, .bool a_v3, .string ⟨a_l3.toArray⟩] 44)) rfl rfl (by kernel_rfl) (by kernel_rfl) (by kernel_rfl) hTb ?_
      refine hx_append (i := 4) (oi := _) (.tmp 2) (.tmp 5) 45 D 44 i5 (.agg #[.string ByteArray.empty, .string ByteArray.empty, .int .i64 0, .bool false, .string ByteArray.empty, .bool false, .string ByteArray.empty, .bool false, .string ByteArray.empty, .bool false, .string ByteArray.empty]) 11 136 (.slice va l.length vc) l.length _ _ (some ⟨w2.heap.size, 0, none⟩) 1 1 (#[.string ⟨a_s.toArray⟩, .string ⟨a_p.toArray⟩, .int .i64 a_n, .bool a_v0, .string ⟨a_l0.toArray⟩, .bool a_v1, .string ⟨a_l1.toArray⟩, .bool a_v2, .string ⟨a_l2.toArray⟩, .bool a_v3, .string ⟨a_l3.toArray⟩] : Array Value).toList rfl rfl (by kernel_rfl) (by kernel_rfl) rfl Tryz.underlying45 I5.out.1 I5.out.2.1 I5.out.2.2.1 I5.out.2.2.2 rfl (by decide) (by kernel_rfl) hO5 (by kernel_rfl) hRD (by simp [Value.oneCell']) (by have := HLL.out; unfold maxLen; omega) (by have := HLL.out; omega) hDD ?_
      intro v6 w6 hown6 hg6 hat6
      obtain ⟨a6, c6, rfl⟩ := own_slice hown6
      have hL6 := cel_own hL5 hO5 (by decide) hg6
      have hT6 : At w6 pb 0 #[.pointer (some ⟨g, 0, none⟩)] := (cel_own hP5 hO5 (by decide) hg6).at
      have hf := body_fin (a := ((a_s, a_p, a_n, (a_v0, a_l0), (a_v1, a_l1), (a_v2, a_l2), (a_v3, a_l3)) : Atm)) hp2 hlo hlb hP2 hL2 hO2 hS5 hg6 hown6 hm1
      refine ⟨hT6, ?_⟩
      have hT7 : At (w6.setCell ⟨lb, 0, none⟩ (.slice a6 (l.length + 1) c6)) pb 0 #[.pointer (some ⟨g, 0, none⟩)] := hf.2.1.1.at
      refine hx_store (i := 5) (oi := _) (w6.setCell ⟨lb, 0, none⟩ (.slice a6 (l.length + 1) c6)) rfl rfl (by kernel_rfl) (by kernel_rfl) (st_atl rfl (by kernel_rfl) (by kernel_rfl) _ hL6 rfl) hT7 ?_
      refine wpAnyH_done (by kernel_rfl) ?_ _
      clear hns hQ
      simp only [List.set_cons_zero, List.set_cons_succ]
      clear hL6 hT6 hT7 hat6 hown6 hg6 hT hP5 hL5 hO5 hRD hS5 hp2 hP2 hL2 hO2
      go_wp2_with fail
      go_end0
      exact ⟨rfl, hf.1, hf.2.1, (HKD.out _ hk2).z.trans' hf.2.2⟩
    · rintro e w2 ⟨rfl, hx2⟩
      obtain ⟨hp2, hk2⟩ := hx2
      have hP2 := hk2.cel hP hpg
      have hL2 := hk2.cel hL hlg
      have hO2 := hk2.own hO hog
      have hT2 : At w2 pb 0 #[.pointer (some ⟨g, 0, none⟩)] := hP2.at
      refine ⟨_, rfl, hT2, ?_⟩
      refine hx_two_vv (i := 0) (j := 3) (oi := _) (oj := _) (.slice va l.length vc) w2 (.slice (some ⟨w2.heap.size, 0, none⟩) 1 1) (w2.alloc (.cells #[.string ⟨a_s.toArray⟩, .string ⟨a_p.toArray⟩, .int .i64 a_n, .bool a_v0, .string ⟨a_l0.toArray⟩, .bool a_v1, .string ⟨a_l1.toArray⟩, .bool a_v2, .string ⟨a_l2.toArray⟩, .bool a_v3, .string ⟨a_l3.toArray⟩] 44)) rfl rfl (by kernel_rfl) (by kernel_rfl) (by kernel_rfl) rfl (ld_one rfl (by kernel_rfl) (by kernel_rfl) _ (hL2.cell 0)) hT2 rfl (by kernel_rfl) (hT2.next ((Since.refl _).alloc _)) ?_ ?_
      · skip
        have hS5 : Since w2 (w2.alloc (.cells #[.string ⟨a_s.toArray⟩, .string ⟨a_p.toArray⟩, .int .i64 a_n, .bool a_v0, .string ⟨a_l0.toArray⟩, .bool a_v1, .string ⟨a_l1.toArray⟩, .bool a_v2, .string ⟨a_l2.toArray⟩, .bool a_v3, .string ⟨a_l3.toArray⟩] 44)) := (Since.refl w2).alloc _
        have hP5 := hP2.next hS5
        have hL5 := hL2.next hS5
        have hO5 := own_since hO2 hS5
        have hRD := reads_celR (heap_alloc_new w2 (.cells #[.string ⟨a_s.toArray⟩, .string ⟨a_p.toArray⟩, .int .i64 a_n, .bool a_v0, .string ⟨a_l0.toArray⟩, .bool a_v1, .string ⟨a_l1.toArray⟩, .bool a_v2, .string ⟨a_l2.toArray⟩, .bool a_v3, .string ⟨a_l3.toArray⟩] 44)) (K := 11) rfl
        have hDD : D ≤ (w2.alloc (.cells #[.string ⟨a_s.toArray⟩, .string ⟨a_p.toArray⟩, .int .i64 a_n, .bool a_v0, .string ⟨a_l0.toArray⟩, .bool a_v1, .string ⟨a_l1.toArray⟩, .bool a_v2, .string ⟨a_l2.toArray⟩, .bool a_v3, .string ⟨a_l3.toArray⟩] 44)).heap.size := Nat.le_trans hDw (Nat.le_trans (HKD.out _ hk2).size hS5.size)
        have hTb : At (w2.alloc (.cells #[.string ⟨a_s.toArray⟩, .string ⟨a_p.toArray⟩, .int .i64 a_n, .bool a_v0, .string ⟨a_l0.toArray⟩, .bool a_v1, .string ⟨a_l1.toArray⟩, .bool a_v2, .string ⟨a_l2.toArray⟩, .bool a_v3, .string ⟨a_l3.toArray⟩] 44)) pb 0 #[.pointer (some ⟨g, 0, none⟩)] := hP5.at
        refine hx_make (i := 3) (oi := _) (.slice (some ⟨w2.heap.size, 0, none⟩) 1 1) (w2.alloc (.cells #[.string ⟨a_s.toArray⟩, .string ⟨a_p.toArray⟩, .int .i64 a_n, .bool a_v0, .string ⟨a_l0.toArray⟩, .bool a_v1, .string ⟨a_l1.toArray⟩, .bool a_v2, .string ⟨a_l2.toArray⟩, .bool a_v3, .string ⟨a_l3.toArray⟩] 44)) rfl rfl (by kernel_rfl) (by kernel_rfl) (by kernel_rfl) hTb ?_
        refine hx_append (i := 4) (oi := _) (.tmp 2) (.tmp 5) 45 D 44 i5 (.agg #[.string ByteArray.empty, .string ByteArray.empty, .int .i64 0, .bool false, .string ByteArray.empty, .bool false, .string ByteArray.empty, .bool false, .string ByteArray.empty, .bool false, .string ByteArray.empty]) 11 136 (.slice va l.length vc) l.length _ _ (some ⟨w2.heap.size, 0, none⟩) 1 1 (#[.string ⟨a_s.toArray⟩, .string ⟨a_p.toArray⟩, .int .i64 a_n, .bool a_v0, .string ⟨a_l0.toArray⟩, .bool a_v1, .string ⟨a_l1.toArray⟩, .bool a_v2, .string ⟨a_l2.toArray⟩, .bool a_v3, .string ⟨a_l3.toArray⟩] : Array Value).toList rfl rfl (by kernel_rfl) (by kernel_rfl) rfl Tryz.underlying45 I5.out.1 I5.out.2.1 I5.out.2.2.1 I5.out.2.2.2 rfl (by decide) (by kernel_rfl) hO5 (by kernel_rfl) hRD (by simp [Value.oneCell']) (by have := HLL.out; unfold maxLen; omega) (by have := HLL.out; omega) hDD ?_
        intro v6 w6 hown6 hg6 hat6
        obtain ⟨a6, c6, rfl⟩ := own_slice hown6
        have hL6 := cel_own hL5 hO5 (by decide) hg6
        have hT6 : At w6 pb 0 #[.pointer (some ⟨g, 0, none⟩)] := (cel_own hP5 hO5 (by decide) hg6).at
        have hf := body_fin (a := ((a_s, a_p, a_n, (a_v0, a_l0), (a_v1, a_l1), (a_v2, a_l2), (a_v3, a_l3)) : Atm)) hp2 hlo hlb hP2 hL2 hO2 hS5 hg6 hown6 hm1
        refine ⟨hT6, ?_⟩
        have hT7 : At (w6.setCell ⟨lb, 0, none⟩ (.slice a6 (l.length + 1) c6)) pb 0 #[.pointer (some ⟨g, 0, none⟩)] := hf.2.1.1.at
        refine hx_store (i := 5) (oi := _) (w6.setCell ⟨lb, 0, none⟩ (.slice a6 (l.length + 1) c6)) rfl rfl (by kernel_rfl) (by kernel_rfl) (st_atl rfl (by kernel_rfl) (by kernel_rfl) _ hL6 rfl) hT7 ?_
        refine wpAnyH_done (by kernel_rfl) ?_ _
        clear hns hQ
        simp only [List.set_cons_zero, List.set_cons_succ]
        clear hL6 hT6 hT7 hat6 hown6 hg6 hT hP5 hL5 hO5 hRD hS5 hp2 hP2 hL2 hO2
        go_wp2_with fail
        go_end0
        exact ⟨rfl, hf.1, hf.2.1, (HKD.out _ hk2).z.trans' hf.2.2⟩
      · skip
        have hS5 : Since w2 (w2.alloc (.cells #[.string ⟨a_s.toArray⟩, .string ⟨a_p.toArray⟩, .int .i64 a_n, .bool a_v0, .string ⟨a_l0.toArray⟩, .bool a_v1, .string ⟨a_l1.toArray⟩, .bool a_v2, .string ⟨a_l2.toArray⟩, .bool a_v3, .string ⟨a_l3.toArray⟩] 44)) := (Since.refl w2).alloc _
        have hP5 := hP2.next hS5
        have hL5 := hL2.next hS5
        have hO5 := own_since hO2 hS5
        have hRD := reads_celR (heap_alloc_new w2 (.cells #[.string ⟨a_s.toArray⟩, .string ⟨a_p.toArray⟩, .int .i64 a_n, .bool a_v0, .string ⟨a_l0.toArray⟩, .bool a_v1, .string ⟨a_l1.toArray⟩, .bool a_v2, .string ⟨a_l2.toArray⟩, .bool a_v3, .string ⟨a_l3.toArray⟩] 44)) (K := 11) rfl
        have hDD : D ≤ (w2.alloc (.cells #[.string ⟨a_s.toArray⟩, .string ⟨a_p.toArray⟩, .int .i64 a_n, .bool a_v0, .string ⟨a_l0.toArray⟩, .bool a_v1, .string ⟨a_l1.toArray⟩, .bool a_v2, .string ⟨a_l2.toArray⟩, .bool a_v3, .string ⟨a_l3.toArray⟩] 44)).heap.size := Nat.le_trans hDw (Nat.le_trans (HKD.out _ hk2).size hS5.size)
        have hTb : At (w2.alloc (.cells #[.string ⟨a_s.toArray⟩, .string ⟨a_p.toArray⟩, .int .i64 a_n, .bool a_v0, .string ⟨a_l0.toArray⟩, .bool a_v1, .string ⟨a_l1.toArray⟩, .bool a_v2, .string ⟨a_l2.toArray⟩, .bool a_v3, .string ⟨a_l3.toArray⟩] 44)) pb 0 #[.pointer (some ⟨g, 0, none⟩)] := hP5.at
        refine hx_make (i := 0) (oi := _) (.slice va l.length vc) (w2.alloc (.cells #[.string ⟨a_s.toArray⟩, .string ⟨a_p.toArray⟩, .int .i64 a_n, .bool a_v0, .string ⟨a_l0.toArray⟩, .bool a_v1, .string ⟨a_l1.toArray⟩, .bool a_v2, .string ⟨a_l2.toArray⟩, .bool a_v3, .string ⟨a_l3.toArray⟩] 44)) rfl rfl (by kernel_rfl) (by kernel_rfl) (ld_one rfl (by kernel_rfl) (by kernel_rfl) _ (hL5.cell 0)) hTb ?_
        refine hx_append (i := 4) (oi := _) (.tmp 2) (.tmp 5) 45 D 44 i5 (.agg #[.string ByteArray.empty, .string ByteArray.empty, .int .i64 0, .bool false, .string ByteArray.empty, .bool false, .string ByteArray.empty, .bool false, .string ByteArray.empty, .bool false, .string ByteArray.empty]) 11 136 (.slice va l.length vc) l.length _ _ (some ⟨w2.heap.size, 0, none⟩) 1 1 (#[.string ⟨a_s.toArray⟩, .string ⟨a_p.toArray⟩, .int .i64 a_n, .bool a_v0, .string ⟨a_l0.toArray⟩, .bool a_v1, .string ⟨a_l1.toArray⟩, .bool a_v2, .string ⟨a_l2.toArray⟩, .bool a_v3, .string ⟨a_l3.toArray⟩] : Array Value).toList rfl rfl (by kernel_rfl) (by kernel_rfl) rfl Tryz.underlying45 I5.out.1 I5.out.2.1 I5.out.2.2.1 I5.out.2.2.2 rfl (by decide) (by kernel_rfl) hO5 (by kernel_rfl) hRD (by simp [Value.oneCell']) (by have := HLL.out; unfold maxLen; omega) (by have := HLL.out; omega) hDD ?_
        intro v6 w6 hown6 hg6 hat6
        obtain ⟨a6, c6, rfl⟩ := own_slice hown6
        have hL6 := cel_own hL5 hO5 (by decide) hg6
        have hT6 : At w6 pb 0 #[.pointer (some ⟨g, 0, none⟩)] := (cel_own hP5 hO5 (by decide) hg6).at
        have hf := body_fin (a := ((a_s, a_p, a_n, (a_v0, a_l0), (a_v1, a_l1), (a_v2, a_l2), (a_v3, a_l3)) : Atm)) hp2 hlo hlb hP2 hL2 hO2 hS5 hg6 hown6 hm1
        refine ⟨hT6, ?_⟩
        have hT7 : At (w6.setCell ⟨lb, 0, none⟩ (.slice a6 (l.length + 1) c6)) pb 0 #[.pointer (some ⟨g, 0, none⟩)] := hf.2.1.1.at
        refine hx_store (i := 5) (oi := _) (w6.setCell ⟨lb, 0, none⟩ (.slice a6 (l.length + 1) c6)) rfl rfl (by kernel_rfl) (by kernel_rfl) (st_atl rfl (by kernel_rfl) (by kernel_rfl) _ hL6 rfl) hT7 ?_
        refine wpAnyH_done (by kernel_rfl) ?_ _
        clear hns hQ
        simp only [List.set_cons_zero, List.set_cons_succ]
        clear hL6 hT6 hT7 hat6 hown6 hg6 hT hP5 hL5 hO5 hRD hS5 hp2 hP2 hL2 hO2
        go_wp2_with fail
        go_end0
        exact ⟨rfl, hf.1, hf.2.1, (HKD.out _ hk2).z.trans' hf.2.2⟩
end Go.Proofs.YtnfjjckbgnieeaaGreatDoor

namespace Go.Proofs.YtnfjjckbgnieeaaGreatDoor
open Go.RowKit

/-- What body answers: a row of its own, or an error. -/
def BOut (w0 w : World) (g : Nat) (lv : Value) (L : List Tk) (n : Nat) (c3 c4 c5 c6 c7 c8 c9 c10 : Value) (R : Except PErr (List Atm × Toks)) (e : Ending) (w' : World) : Prop := match R with
  | .error (k, er) => e = .panicked [FlawE (placeK L n k) er] ∧ OnlyG g w w'
  | .ok (l, r1) => ∃ v, e = .returned v ∧ w'.ownsRow w.heap.size 44 11 v l.length (l.flatMap atmL) ∧ l.length ≤ 65536 ∧ Prs w0 w' g lv L n r1 c3 c4 c5 c6 c7 c8 c9 c10 ∧ OnlyG g w w'
theorem prs_zl {w0 W W' : World} {g ab : Nat} {lv : Value} {L : List Tk} {n : Nat} {r : Toks} {c3 c4 c5 c6 c7 c8 c9 c10 : Value} {cs : Array Value} (h : Prs w0 W g lv L n r c3 c4 c5 c6 c7 c8 c9 c10) (hne : ¬ ab = g) (hlo : w0.heap.size ≤ ab) (hc : Cel W ab cs 45) (hk : Keep (fun b => b = ab) W W') : Prs w0 W' g lv L n r c3 c4 c5 c6 c7 c8 c9 c10 :=
  ⟨h.par.keep hk (fun e => hne e.symm) (fun b hb e => cel_own_ne hc h.par.row (by decide) (by rw [hb, e])), hk.since h.sin (fun x hx => by rw [hx]; exact hlo), h.low, h.env, h.fit⟩
set_option maxHeartbeats 4000000 in
set_option maxRecDepth 100000 in
theorem pbody_any {w0 : World} {g : Nat} {lv : Value} {L : List Tk} {n : Nat} {c3 c4 c5 c6 c7 c8 c9 c10 : Value} (r : Toks) (w : World) (h : Prs w0 w g lv L n r c3 c4 c5 c6 c7 c8 c9 c10) :
    Calls Tryz.prog 91 #[.pointer (some ⟨g, 0, none⟩)] w (BOut w0 w g lv L n c3 c4 c5 c6 c7 c8 c9 c10 (bodyT r)) := by
  have hmf : ∀ (fn : Fn) (first cap : Array Value) (w : World), (Instr.makeFunc fn first cap).run Tryz.prog w = .ok (.func fn first cap) w := fun _ _ _ _ => rfl
  obtain ⟨R, hR⟩ : ∃ R, Hid (R = bodyT r) := ⟨_, rfl⟩
  obtain ⟨K, hK⟩ : ∃ K : Ending → World → Prop, Hid (K = BOut w0 w g lv L n c3 c4 c5 c6 c7 c8 c9 c10 R) := ⟨_, rfl⟩
  have hbad : Hid (∀ k er w', R = .error (k, er) → OnlyG g w w' → K (.panicked [FlawE (placeK L n k) er]) w') := fun k er w' e h => by rw [hK.out, e]; exact ⟨rfl, h⟩
  have hgood : Hid (∀ l r1 w' v, R = .ok (l, r1) → w'.ownsRow w.heap.size 44 11 v l.length (l.flatMap atmL) → l.length ≤ 65536 → Prs w0 w' g lv L n r1 c3 c4 c5 c6 c7 c8 c9 c10 → OnlyG g w w' → K (.returned v) w') := fun l r1 w' v e h0 h3 h1 h2 => by rw [hK.out, e]; exact ⟨v, rfl, h0, h3, h1, h2⟩
  rw [← hR.out, ← hK.out]
  clear hK
  have hSb : Since w ((w.alloc (.cells #[.pointer (some ⟨g, 0, none⟩)] 80)).alloc (.cells #[.slice none 0 0] 45)) := ((Since.refl w).alloc _).alloc _
  have hPb : Cel ((w.alloc (.cells #[.pointer (some ⟨g, 0, none⟩)] 80)).alloc (.cells #[.slice none 0 0] 45)) w.heap.size #[.pointer (some ⟨g, 0, none⟩)] 80 := Cel.next (heap_alloc_new w _) ((Since.refl _).alloc _)
  have hLb : Cel ((w.alloc (.cells #[.pointer (some ⟨g, 0, none⟩)] 80)).alloc (.cells #[.slice none 0 0] 45)) (w.heap.size + 1) #[.slice none 0 0] 45 := by
    have k := heap_alloc_new (w.alloc (.cells #[.pointer (some ⟨g, 0, none⟩)] 80)) (.cells #[.slice none 0 0] 45)
    rw [show (w.alloc (.cells #[.pointer (some ⟨g, 0, none⟩)] 80)).heap.size = w.heap.size + 1 by simp] at k
    exact k
  have hgl := h.par.cel.lt
  have HRL : Hid (r.length ≤ 65536) := by show _ ≤ _; have := h.par.le; have := h.par.len; omega
  have HS0 := Lib.hid h.sin.size
  have h1 := h.next hSb
  clear h
  go_enter Tryz.func91, Tryz.ntmps91
  go_upto_region 1 with (fail)
  generalize ((w.alloc (.cells #[.pointer (some ⟨g, 0, none⟩)] 80)).alloc (.cells #[.slice none 0 0] 45)) = w1 at *
  obtain ⟨pb, hpb⟩ : ∃ x, Hid (x = w.heap.size) := ⟨_, rfl⟩
  obtain ⟨lb, hlb⟩ : ∃ x, Hid (x = w.heap.size + 1) := ⟨_, rfl⟩
  have HPg : Hid (¬ pb = g ∧ ¬ lb = g ∧ w.heap.size ≤ lb ∧ g < lb ∧ pb < lb) := by show _ ∧ _; rw [hpb.out, hlb.out]; omega
  simp only [← hlb.out]
  simp only [← hpb.out]
  rw [← hpb.out] at hPb
  rw [← hlb.out] at hLb
  have p1 : w1.cell? ⟨pb, 0, none⟩ = some (.pointer (some ⟨g, 0, none⟩)) := hPb.cell 0
  have HSK := Lib.hid (pskip_here wIf h1 (by decide))
  have HX := Lib.hid hSb
  obtain ⟨b, hb⟩ : ∃ b, Hid (b = isT wIf r) := ⟨_, rfl⟩
  rw [← hb.out] at HSK
  clear hgl hpb hlb h1 hSb
  cases b with
  | false =>
    have HS2 : Hid (Calls Tryz.prog 92 #[.pointer (some ⟨g, 0, none⟩), .string ⟨#[105, 102]⟩] w1 fun e w' => e = .returned (.bool false) ∧ Prs w0 w' g lv L n r c3 c4 c5 c6 c7 c8 c9 c10 ∧ OnlyG g w1 w') := HSK.out
    have HR3 : Hid (R = .ok ([], r)) := by show _ = _; rw [hR.out, bodyT, ← hb.out]; rfl
    clear HSK hR hb
    go_wp2_with fail
    refine HS2.out.mono ?_
    rintro e w2 ⟨rfl, hp2, hk2⟩
    have hL2 := hk2.cel hLb HPg.out.2.1
    have hG2 := only_since HX.out hk2
    have l0 : w2.cell? ⟨lb, 0, none⟩ = some (.slice none 0 0) := hL2.cell 0
    have l1 := hL2.free 0
    have l2 := hL2.lt
    have hZ : Keep (fun x => x = lb) w2 (w2.setCell ⟨lb, 0, none⟩ (.slice none 0 0)) := Keep.of_grown (grown_setCell w2 lb 0 _) (fun b hb => by injection hb with hb; exact hb.symm)
    have hC : Cel (w2.setCell ⟨lb, 0, none⟩ (.slice none 0 0)) lb #[.slice none 0 0] 45 := hL2.set rfl
    have q0 := hC.cell 0
    clear HS2 p1 hPb hLb hk2
    go_wp2_with fail
    refine bodyPost_ret (v := .slice none 0 0) (by simp [results, Tryz.results91, go_sem, q0]) rfl ?_
    exact hgood.out _ _ _ _ HR3.out (World.ownsRow_nil _ _ _ _) (Nat.zero_le _) (prs_zl hp2 HPg.out.2.1 (Nat.le_trans HS0.out HPg.out.2.2.1) hL2 hZ) (only_new hG2 hZ HPg.out.2.2.1)
  | true =>
    obtain ⟨q1, hq1⟩ : ∃ q, Hid (q = r.drop 1) := ⟨_, rfl⟩
    have HS2 : Hid (Calls Tryz.prog 92 #[.pointer (some ⟨g, 0, none⟩), .string ⟨#[105, 102]⟩] w1 fun e w' => e = .returned (.bool true) ∧ Prs w0 w' g lv L n q1 c3 c4 c5 c6 c7 c8 c9 c10 ∧ OnlyG g w1 w') := by rw [hq1.out]; exact HSK.out
    have HR3 : Hid (R = eachT atomStep [] q1) := by show _ = _; rw [hR.out, bodyT, ← hb.out, hq1.out]; rfl
    have HQL : Hid (q1.length ≤ 65536) := by show _ ≤ _; rw [hq1.out, List.length_drop]; have := HRL.out; omega
    clear HSK hR hb hq1 HRL
    go_wp2_with fail
    refine HS2.out.mono ?_
    rintro e w2 ⟨rfl, hp2, hk2⟩
    have hL2 := hk2.cel hLb HPg.out.2.1
    have hP2 := hk2.cel hPb HPg.out.1
    have hG2 := only_since HX.out hk2
    have p2 : w2.cell? ⟨pb, 0, none⟩ = some (.pointer (some ⟨g, 0, none⟩)) := hP2.cell 0
    have HEA := Lib.hid (peach_any (L := L) (n := n) 113 #[.pointer (some ⟨lb, 0, none⟩), .pointer (some ⟨pb, 0, none⟩)] atomStep atomStep_eats lb (fun l r W => BodyI g pb lb lb q1.length l r W)
      (fun s r W W' hi hk => by
        obtain ⟨k1, ⟨v, k2, k3⟩, k4⟩ := hi
        exact ⟨hk.cel k1 HPg.out.1, ⟨v, hk.cel k2 HPg.out.2.1, hk.own k3 (fun b hb e => by have := (k3.lt b hb).1; have := HPg.out.2.2.2.1; omega)⟩, k4⟩)
      (fun s r W hi => ⟨hi.1, hi.2.1, by have := hi.2.2; rw [List.length_drop]; omega⟩) (fun _ _ => by kernel_rfl)
      (fun s r W hp hi hD => pbody1_any pb lb lb q1.length (Nat.le_trans HS0.out HPg.out.2.2.1) (Nat.le_refl _) (by have := HQL.out; omega) s r W hp hi hD)
      [] q1 w2 hp2 ⟨hP2, ⟨_, hL2, World.ownsRow_nil _ _ _ _⟩, by simp⟩ (Nat.le_of_lt hL2.lt))
    clear HS2 p1 hPb hLb hk2 hL2 hP2 hp2
    cases he : eachT atomStep [] q1 with
    | error x =>
      obtain ⟨k, er⟩ := x
      have hHE := HEA.out
      rw [he] at hHE
      have HE2 : Hid (Calls Tryz.prog 87 #[.pointer (some ⟨g, 0, none⟩), .func (.func 113) #[] #[.pointer (some ⟨lb, 0, none⟩), .pointer (some ⟨pb, 0, none⟩)]] w2 fun e w' => e = .panicked [FlawE (placeK L n k) er] ∧ OnlyZ g lb w2 w') := hHE
      have HR4 : Hid (R = .error (k, er)) := by rw [← he]; exact HR3.out
      clear HEA hHE he HR3
      go_wp2_with fail
      refine HE2.out.mono ?_
      rintro e w5 ⟨rfl, hk5⟩
      go_wp2_with fail
      exact ⟨rfl, hbad.out _ _ _ HR4.out (only_z hG2 hk5 HPg.out.2.2.1)⟩
    | ok x =>
      obtain ⟨l, r2⟩ := x
      have hHE := HEA.out
      rw [he] at hHE
      have HE2 : Hid (Calls Tryz.prog 87 #[.pointer (some ⟨g, 0, none⟩), .func (.func 113) #[] #[.pointer (some ⟨lb, 0, none⟩), .pointer (some ⟨pb, 0, none⟩)]] w2 fun e w' => e = .returned (.tuple #[]) ∧ Prs w0 w' g lv L n r2 c3 c4 c5 c6 c7 c8 c9 c10 ∧ BodyI g pb lb lb q1.length l r2 w' ∧ OnlyZ g lb w2 w') := hHE
      have HR4 : Hid (R = .ok (l, r2)) := by rw [← he]; exact HR3.out
      clear HEA hHE he HR3
      go_wp2_with fail
      refine HE2.out.mono ?_
      rintro e w5 ⟨rfl, hp5, ⟨hP5, ⟨v, hL5, hO5⟩, hm5⟩, hk5⟩
      have HLL : Hid (l.length ≤ 65536) := by show _ ≤ _; have := HQL.out; omega
      have hG5 := only_z hG2 hk5 HPg.out.2.2.1
      obtain ⟨va, vc, rfl⟩ := own_slice hO5
      have l0 : w5.cell? ⟨lb, 0, none⟩ = some (.slice va l.length vc) := hL5.cell 0
      have l1 := hL5.free 0
      have l2 := hL5.lt
      have hg5 := grown_setCell w5 lb 0 (.slice va l.length vc)
      have hZ : Keep (fun x => x = lb) w5 (w5.setCell ⟨lb, 0, none⟩ (.slice va l.length vc)) := Keep.of_grown hg5 (fun b hb => by injection hb with hb; exact hb.symm)
      have hC : Cel (w5.setCell ⟨lb, 0, none⟩ (.slice va l.length vc)) lb #[.slice va l.length vc] 45 := hL5.set rfl
      have hO6 := own_base (own_setCell (j := 0) (u := .slice va l.length vc) hO5 hL5 (by decide)) HPg.out.2.2.1
      have q0 := hC.cell 0
      clear HE2 p2 hk5 hG2 hP5 hm5
      go_wp2_with fail
      refine bodyPost_ret (v := .slice va l.length vc) (by simp [results, Tryz.results91, go_sem, q0]) rfl ?_
      exact hgood.out _ _ _ _ HR4.out hO6 HLL.out (prs_zl hp5 HPg.out.2.1 (Nat.le_trans HS0.out HPg.out.2.2.1) hL5 hZ) (only_new hG5 hZ HPg.out.2.2.1)
end Go.Proofs.YtnfjjckbgnieeaaGreatDoor
