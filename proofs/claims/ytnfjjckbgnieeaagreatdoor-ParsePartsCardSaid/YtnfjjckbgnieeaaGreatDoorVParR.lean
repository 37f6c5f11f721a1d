/- Parsing of an atom, of a goal. -/
import Derived.Test.YtnfjjckbgnieeaaGreatDoorVParN
namespace Go.Proofs.YtnfjjckbgnieeaaGreatDoor
open Go.RowKit

set_option maxHeartbeats 4000000 in
set_option maxRecDepth 100000 in
theorem one1_0 {w0 : World} {g : Nat} {lv : Value} {L : List Tk} {n : Nat} {c3 c4 c5 c6 c7 c8 c9 c10 : Value} (eb ab : Nat) (r : Toks) (w : World) (heb : Cel w0 eb #[.string ⟨#[]⟩] 9) (hab : Cel w0 ab #[.string ⟨#[]⟩, .string ⟨#[]⟩, .int .i64 0, .bool false, .string ⟨#[]⟩, .bool false, .string ⟨#[]⟩, .bool false, .string ⟨#[]⟩, .bool false, .string ⟨#[]⟩] 44) (h : Prs w0 w g lv L n r c3 c4 c5 c6 c7 c8 c9 c10) :
    Calls Tryz.prog 72 #[.pointer (some ⟨g, 0, none⟩), .pointer (some ⟨eb, 0, none⟩), .pointer (some ⟨ab, 0, none⟩)] w (ROut w0 ab L n (fun _ a W => Cel W ab (atmC a) 44) (oneT none r)) := by
  obtain ⟨R, hR⟩ : ∃ R, Hid (R = oneT none r) := ⟨_, rfl⟩
  obtain ⟨K, hK⟩ : ∃ K : Ending → World → Prop, Hid (K = ROut w0 ab L n (fun _ a W => Cel W ab (atmC a) 44) R) := ⟨_, rfl⟩
  have hbad : Hid (∀ k er w', R = .error (k, er) → Since w0 w' → K (.panicked [FlawE (placeK L n k) er]) w') := fun k er w' e h => by rw [hK.out, e]; exact ⟨rfl, h⟩
  have hgood : Hid (∀ a w', R = .ok a → Keep (fun b => b = ab) w0 w' → Cel w' ab (atmC a) 44 → K (.returned (.tuple #[])) w') := fun a w' e h1 h2 => by rw [hK.out, e]; exact ⟨rfl, h1, h2⟩
  rw [← hR.out, ← hK.out]
  clear hK
  have HP := Lib.hid h
  have HG : Hid (OnlyG g w w) := Keep.refl _ _
  have HE0 := Lib.hid heb
  have HA0 := Lib.hid hab
  have hR1 := hR.out
  rw [oneT] at hR1
  have HR := Lib.hid hR1
  clear h hR hR1 heb hab
  go_enter Tryz.func72, Tryz.ntmps72
  have HC := Lib.hid (patom_any r w HP.out)
  cases hc : atomT r with
  | error x =>
    obtain ⟨k1, er⟩ := x
    have hH := HC.out
    rw [hc] at hH
    have HC2 : Hid (Calls Tryz.prog 73 #[.pointer (some ⟨g, 0, none⟩)] w fun e w' => e = .panicked [FlawE (placeK L n k1) er] ∧ OnlyG g w w') := hH
    have hR1 := HR.out
    rw [hc] at hR1
    have HR1 : Hid (R = .error (k1, er)) := hR1
    have HS : Hid (∀ w', OnlyG g w w' → Since w0 w') := fun w' hk => only_new0 HP.out hk
    clear HC hH hR1 HR hc hgood HG HA0
    go_wp2_with fail
    refine HC2.out.mono ?_
    rintro e wz ⟨rfl, hk⟩
    go_wp2_with fail
    exact ⟨rfl, hbad.out _ _ _ HR1.out (HS.out _ hk)⟩
  | ok x =>
    obtain ⟨⟨a_s, a_p, a_n, ⟨a_v0, a_l0⟩, ⟨a_v1, a_l1⟩, ⟨a_v2, a_l2⟩, ⟨a_v3, a_l3⟩⟩, r1⟩ := x
    have hH := HC.out
    rw [hc] at hH
    have HC2 : Hid (Calls Tryz.prog 73 #[.pointer (some ⟨g, 0, none⟩)] w fun e w' => e = .returned (.agg #[.string ⟨a_s.toArray⟩, .string ⟨a_p.toArray⟩, .int .i64 a_n, .bool a_v0, .string ⟨a_l0.toArray⟩, .bool a_v1, .string ⟨a_l1.toArray⟩, .bool a_v2, .string ⟨a_l2.toArray⟩, .bool a_v3, .string ⟨a_l3.toArray⟩]) ∧ Prs w0 w' g lv L n r1 c3 c4 c5 c6 c7 c8 c9 (c10) ∧ OnlyG g w w') := hH
    have hR1 := HR.out
    rw [hc] at hR1
    simp only at hR1
    replace HR := Lib.hid hR1
    clear HC hH hR1 hc
    go_wp2_with fail
    refine HC2.out.mono ?_
    rintro e w2 ⟨rfl, hp2, hk2⟩
    replace HP := Lib.hid hp2
    replace HG := Lib.hid (only_only HG.out hk2)
    clear HC2 hp2  
    clear hk2
    have hS3 : Since w2 (w2.alloc (.cells #[.string ⟨a_s.toArray⟩, .string ⟨a_p.toArray⟩, .int .i64 a_n, .bool a_v0, .string ⟨a_l0.toArray⟩, .bool a_v1, .string ⟨a_l1.toArray⟩, .bool a_v2, .string ⟨a_l2.toArray⟩, .bool a_v3, .string ⟨a_l3.toArray⟩] 44)) := (Since.refl w2).alloc _
    have HBb : Cel (w2.alloc (.cells #[.string ⟨a_s.toArray⟩, .string ⟨a_p.toArray⟩, .int .i64 a_n, .bool a_v0, .string ⟨a_l0.toArray⟩, .bool a_v1, .string ⟨a_l1.toArray⟩, .bool a_v2, .string ⟨a_l2.toArray⟩, .bool a_v3, .string ⟨a_l3.toArray⟩] 44)) w2.heap.size #[.string ⟨a_s.toArray⟩, .string ⟨a_p.toArray⟩, .int .i64 a_n, .bool a_v0, .string ⟨a_l0.toArray⟩, .bool a_v1, .string ⟨a_l1.toArray⟩, .bool a_v2, .string ⟨a_l2.toArray⟩, .bool a_v3, .string ⟨a_l3.toArray⟩] 44 := heap_alloc_new w2 _
    have hgl := HP.out.par.cel.lt
    replace HP := Lib.hid (HP.out.next hS3)
    replace HG : Hid (OnlyG g w (w2.alloc (.cells #[.string ⟨a_s.toArray⟩, .string ⟨a_p.toArray⟩, .int .i64 a_n, .bool a_v0, .string ⟨a_l0.toArray⟩, .bool a_v1, .string ⟨a_l1.toArray⟩, .bool a_v2, .string ⟨a_l2.toArray⟩, .bool a_v3, .string ⟨a_l3.toArray⟩] 44))) := only_then HG.out hS3
    go_upto_region 1 with (fail)
    generalize (w2.alloc (.cells #[.string ⟨a_s.toArray⟩, .string ⟨a_p.toArray⟩, .int .i64 a_n, .bool a_v0, .string ⟨a_l0.toArray⟩, .bool a_v1, .string ⟨a_l1.toArray⟩, .bool a_v2, .string ⟨a_l2.toArray⟩, .bool a_v3, .string ⟨a_l3.toArray⟩] 44)) = w3 at *
    obtain ⟨bb, hbb⟩ : ∃ x, Hid (x = w2.heap.size) := ⟨_, rfl⟩
    have HBg : Hid (¬ bb = g) := by show ¬ _; rw [hbb.out]; omega
    simp only [← hbb.out]
    rw [← hbb.out] at HBb
    have e3_ : w3.cell? ⟨eb, 0, none⟩ = some (.string ⟨#[]⟩) := HP.out.sin.cell (HE0.out.cell 0)
    clear hbb hgl hS3
    have hR1 := HR.out
    simp only [stopT] at hR1
    replace HR := Lib.hid hR1
    clear hR1
    go_upto_region 3 with (fail)
    obtain ⟨i, hi⟩ : ∃ i, Hid (i = L.length - r1.length) := ⟨_, rfl⟩
    obtain ⟨va, vc, rfl⟩ := own_slice HP.out.par.row
    have d0 : w3.cell? ⟨g, 0, none⟩ = some (.slice va L.length vc) := HP.out.par.cel.cell 0
    have d1 : w3.cell? ⟨g, 1, none⟩ = some (.int .i64 (i : Int)) := by rw [hi.out]; exact HP.out.par.cel.cell 1
    have hle := HP.out.par.le
    by_cases h0 : r1.length = 0
    · have hl1 : ¬ (i : Int) < (L.length : Int) := by rw [hi.out]; omega
      have HR3 : Hid (R = .ok ((a_s, a_p, a_n, (a_v0, a_l0), (a_v1, a_l1), (a_v2, a_l2), (a_v3, a_l3)) : Atm)) := by show _ = _; rw [HR.out, if_pos h0]
      go_quiet (fail)
      rename_i nq
      have hS9 : Since w3 (w3.drewN nq) := (Since.refl w3).drewN nq
      have hB9 := HBb.next hS9
      have hA9 := HA0.out.next (HP.out.sin.trans hS9)
      have hk9 : Keep (fun b => b = ab) w0 ((w3.drewN nq).setRow ab #[.string ⟨a_s.toArray⟩, .string ⟨a_p.toArray⟩, .int .i64 a_n, .bool a_v0, .string ⟨a_l0.toArray⟩, .bool a_v1, .string ⟨a_l1.toArray⟩, .bool a_v2, .string ⟨a_l2.toArray⟩, .bool a_v3, .string ⟨a_l3.toArray⟩]) := (Keep.of_since (Z := fun b => b = ab) (HP.out.sin.trans hS9)).trans (row_setRow hA9) (fun _ h => .inl h)
      have hfin := Lib.hid (hgood.out ((a_s, a_p, a_n, (a_v0, a_l0), (a_v1, a_l1), (a_v2, a_l2), (a_v3, a_l3)) : Atm) _ HR3.out hk9 (hA9.row _))
      have hone : Hid (((#[.string ⟨a_s.toArray⟩, .string ⟨a_p.toArray⟩, .int .i64 a_n, .bool a_v0, .string ⟨a_l0.toArray⟩, .bool a_v1, .string ⟨a_l1.toArray⟩, .bool a_v2, .string ⟨a_l2.toArray⟩, .bool a_v3, .string ⟨a_l3.toArray⟩] : Array Value).all (·.oneCell')) = true) := by show _ = _; simp [Value.oneCell']
      have e0 : (w3.drewN nq).cell? ⟨bb, 0, none⟩ = some (.string ⟨a_s.toArray⟩) := hB9.cell 0
      have e1 : (w3.drewN nq).cell? ⟨bb, 1, none⟩ = some (.string ⟨a_p.toArray⟩) := hB9.cell 1
      have e2 : (w3.drewN nq).cell? ⟨bb, 2, none⟩ = some (.int .i64 a_n) := hB9.cell 2
      have e3 : (w3.drewN nq).cell? ⟨bb, 3, none⟩ = some (.bool a_v0) := hB9.cell 3
      have e4 : (w3.drewN nq).cell? ⟨bb, 4, none⟩ = some (.string ⟨a_l0.toArray⟩) := hB9.cell 4
      have e5 : (w3.drewN nq).cell? ⟨bb, 5, none⟩ = some (.bool a_v1) := hB9.cell 5
      have e6 : (w3.drewN nq).cell? ⟨bb, 6, none⟩ = some (.string ⟨a_l1.toArray⟩) := hB9.cell 6
      have e7 : (w3.drewN nq).cell? ⟨bb, 7, none⟩ = some (.bool a_v2) := hB9.cell 7
      have e8 : (w3.drewN nq).cell? ⟨bb, 8, none⟩ = some (.string ⟨a_l2.toArray⟩) := hB9.cell 8
      have e9 : (w3.drewN nq).cell? ⟨bb, 9, none⟩ = some (.bool a_v3) := hB9.cell 9
      have e10 : (w3.drewN nq).cell? ⟨bb, 10, none⟩ = some (.string ⟨a_l3.toArray⟩) := hB9.cell 10
      have hi2 : (w3.drewN nq).heap[ab]? = some (.cells #[.string ⟨#[]⟩, .string ⟨#[]⟩, .int .i64 0, .bool false, .string ⟨#[]⟩, .bool false, .string ⟨#[]⟩, .bool false, .string ⟨#[]⟩, .bool false, .string ⟨#[]⟩] 44 (0, 0)) := hA9
      generalize w3.drewN nq = wd at *
      clear hA9 hB9 hk9 hS9 HP HG HR HR3 hi hle d0 d1 HBb
      go_wp2_with (refine wpList_store_row rfl 44 (.tmp 2) (.tmp 28) rfl ab #[.string ⟨a_s.toArray⟩, .string ⟨a_p.toArray⟩, .int .i64 a_n, .bool a_v0, .string ⟨a_l0.toArray⟩, .bool a_v1, .string ⟨a_l1.toArray⟩, .bool a_v2, .string ⟨a_l2.toArray⟩, .bool a_v3, .string ⟨a_l3.toArray⟩] rfl rfl 44 #[.string ⟨#[]⟩, .string ⟨#[]⟩, .int .i64 0, .bool false, .string ⟨#[]⟩, .bool false, .string ⟨#[]⟩, .bool false, .string ⟨#[]⟩, .bool false, .string ⟨#[]⟩] hi2 ainfoC rfl hone.out ?_)
      go_end0
      exact hfin.out
    · have hl1 : (i : Int) < (L.length : Int) := by rw [hi.out]; omega
      have HR3 : Hid (R = .error (r1.length, 3)) := by show _ = _; rw [HR.out, if_neg h0]
      go_quiet (fail)
      rename_i nq
      have hS9 : Since w3 (w3.drewN nq) := (Since.refl w3).drewN nq
      have hP9 := HP.out.next hS9
      have HF := Lib.hid (pfail_here 3 (w3.drewN nq) hP9.par)
      rw [← hi.out] at HF
      have c9 : (w3.drewN nq).cell? ⟨g, 1, none⟩ = some (.int .i64 (i : Int)) := by rw [hi.out]; exact hP9.par.cel.cell 1
      have HS9 := Lib.hid hP9.sin
      generalize w3.drewN nq = wd at *
      clear hP9 HP HG HR hS9 hle d0 d1 hi HBb
      go_wp2_with fail
      refine HF.out.mono ?_
      rintro e wz ⟨rfl, hz⟩
      go_wp2_with fail
      exact ⟨rfl, hbad.out _ _ _ HR3.out (HS9.out.trans hz)⟩
set_option maxHeartbeats 4000000 in
set_option maxRecDepth 100000 in
theorem one1_1 {w0 : World} {g : Nat} {lv : Value} {L : List Tk} {n : Nat} {c3 c4 c5 c6 c7 c8 c9 c10 : Value} (eb ab : Nat) (x : Txt) (hx : x ≠ []) (hxe : x.isEmpty = false) (r : Toks) (w : World) (heb : Cel w0 eb #[.string ⟨x.toArray⟩] 9) (hab : Cel w0 ab #[.string ⟨#[]⟩, .string ⟨#[]⟩, .int .i64 0, .bool false, .string ⟨#[]⟩, .bool false, .string ⟨#[]⟩, .bool false, .string ⟨#[]⟩, .bool false, .string ⟨#[]⟩] 44) (h : Prs w0 w g lv L n r c3 c4 c5 c6 c7 c8 c9 c10) :
    Calls Tryz.prog 72 #[.pointer (some ⟨g, 0, none⟩), .pointer (some ⟨eb, 0, none⟩), .pointer (some ⟨ab, 0, none⟩)] w (ROut w0 ab L n (fun _ a W => Cel W ab (atmC a) 44) (oneT (some x) r)) := by
  obtain ⟨R, hR⟩ : ∃ R, Hid (R = oneT (some x) r) := ⟨_, rfl⟩
  obtain ⟨K, hK⟩ : ∃ K : Ending → World → Prop, Hid (K = ROut w0 ab L n (fun _ a W => Cel W ab (atmC a) 44) R) := ⟨_, rfl⟩
  have hbad : Hid (∀ k er w', R = .error (k, er) → Since w0 w' → K (.panicked [FlawE (placeK L n k) er]) w') := fun k er w' e h => by rw [hK.out, e]; exact ⟨rfl, h⟩
  have hgood : Hid (∀ a w', R = .ok a → Keep (fun b => b = ab) w0 w' → Cel w' ab (atmC a) 44 → K (.returned (.tuple #[])) w') := fun a w' e h1 h2 => by rw [hK.out, e]; exact ⟨rfl, h1, h2⟩
  rw [← hR.out, ← hK.out]
  clear hK
  have HP := Lib.hid h
  have HG : Hid (OnlyG g w w) := Keep.refl _ _
  have HE0 := Lib.hid heb
  have HA0 := Lib.hid hab
  have hR1 := hR.out
  rw [oneT] at hR1
  have HR := Lib.hid hR1
  clear h hR hR1 heb hab
  go_enter Tryz.func72, Tryz.ntmps72
  have HC := Lib.hid (patom_any r w HP.out)
  cases hc : atomT r with
  | error x =>
    obtain ⟨k1, er⟩ := x
    have hH := HC.out
    rw [hc] at hH
    have HC2 : Hid (Calls Tryz.prog 73 #[.pointer (some ⟨g, 0, none⟩)] w fun e w' => e = .panicked [FlawE (placeK L n k1) er] ∧ OnlyG g w w') := hH
    have hR1 := HR.out
    rw [hc] at hR1
    have HR1 : Hid (R = .error (k1, er)) := hR1
    have HS : Hid (∀ w', OnlyG g w w' → Since w0 w') := fun w' hk => only_new0 HP.out hk
    clear HC hH hR1 HR hc hgood HG HA0
    go_wp2_with fail
    refine HC2.out.mono ?_
    rintro e wz ⟨rfl, hk⟩
    go_wp2_with fail
    exact ⟨rfl, hbad.out _ _ _ HR1.out (HS.out _ hk)⟩
  | ok x =>
    obtain ⟨⟨a_s, a_p, a_n, ⟨a_v0, a_l0⟩, ⟨a_v1, a_l1⟩, ⟨a_v2, a_l2⟩, ⟨a_v3, a_l3⟩⟩, r1⟩ := x
    have hH := HC.out
    rw [hc] at hH
    have HC2 : Hid (Calls Tryz.prog 73 #[.pointer (some ⟨g, 0, none⟩)] w fun e w' => e = .returned (.agg #[.string ⟨a_s.toArray⟩, .string ⟨a_p.toArray⟩, .int .i64 a_n, .bool a_v0, .string ⟨a_l0.toArray⟩, .bool a_v1, .string ⟨a_l1.toArray⟩, .bool a_v2, .string ⟨a_l2.toArray⟩, .bool a_v3, .string ⟨a_l3.toArray⟩]) ∧ Prs w0 w' g lv L n r1 c3 c4 c5 c6 c7 c8 c9 (c10) ∧ OnlyG g w w') := hH
    have hR1 := HR.out
    rw [hc] at hR1
    simp only at hR1
    replace HR := Lib.hid hR1
    clear HC hH hR1 hc
    go_wp2_with fail
    refine HC2.out.mono ?_
    rintro e w2 ⟨rfl, hp2, hk2⟩
    replace HP := Lib.hid hp2
    replace HG := Lib.hid (only_only HG.out hk2)
    clear HC2 hp2  
    clear hk2
    have hS3 : Since w2 (w2.alloc (.cells #[.string ⟨a_s.toArray⟩, .string ⟨a_p.toArray⟩, .int .i64 a_n, .bool a_v0, .string ⟨a_l0.toArray⟩, .bool a_v1, .string ⟨a_l1.toArray⟩, .bool a_v2, .string ⟨a_l2.toArray⟩, .bool a_v3, .string ⟨a_l3.toArray⟩] 44)) := (Since.refl w2).alloc _
    have HBb : Cel (w2.alloc (.cells #[.string ⟨a_s.toArray⟩, .string ⟨a_p.toArray⟩, .int .i64 a_n, .bool a_v0, .string ⟨a_l0.toArray⟩, .bool a_v1, .string ⟨a_l1.toArray⟩, .bool a_v2, .string ⟨a_l2.toArray⟩, .bool a_v3, .string ⟨a_l3.toArray⟩] 44)) w2.heap.size #[.string ⟨a_s.toArray⟩, .string ⟨a_p.toArray⟩, .int .i64 a_n, .bool a_v0, .string ⟨a_l0.toArray⟩, .bool a_v1, .string ⟨a_l1.toArray⟩, .bool a_v2, .string ⟨a_l2.toArray⟩, .bool a_v3, .string ⟨a_l3.toArray⟩] 44 := heap_alloc_new w2 _
    have hgl := HP.out.par.cel.lt
    replace HP := Lib.hid (HP.out.next hS3)
    replace HG : Hid (OnlyG g w (w2.alloc (.cells #[.string ⟨a_s.toArray⟩, .string ⟨a_p.toArray⟩, .int .i64 a_n, .bool a_v0, .string ⟨a_l0.toArray⟩, .bool a_v1, .string ⟨a_l1.toArray⟩, .bool a_v2, .string ⟨a_l2.toArray⟩, .bool a_v3, .string ⟨a_l3.toArray⟩] 44))) := only_then HG.out hS3
    go_upto_region 1 with (fail)
    generalize (w2.alloc (.cells #[.string ⟨a_s.toArray⟩, .string ⟨a_p.toArray⟩, .int .i64 a_n, .bool a_v0, .string ⟨a_l0.toArray⟩, .bool a_v1, .string ⟨a_l1.toArray⟩, .bool a_v2, .string ⟨a_l2.toArray⟩, .bool a_v3, .string ⟨a_l3.toArray⟩] 44)) = w3 at *
    obtain ⟨bb, hbb⟩ : ∃ x, Hid (x = w2.heap.size) := ⟨_, rfl⟩
    have HBg : Hid (¬ bb = g) := by show ¬ _; rw [hbb.out]; omega
    simp only [← hbb.out]
    rw [← hbb.out] at HBb
    have e3_ : w3.cell? ⟨eb, 0, none⟩ = some (.string ⟨x.toArray⟩) := HP.out.sin.cell (HE0.out.cell 0)
    clear hbb hgl hS3
    have hR1 := HR.out
    simp only [stopT] at hR1
    replace HR := Lib.hid hR1
    clear hR1
    have HC := Lib.hid (pmust_here x HP.out hx)
    cases hc : mustT x r1 with
    | error x =>
      obtain ⟨k1, er⟩ := x
      have hH := HC.out
      rw [hc] at hH
      have HC2 : Hid (Calls Tryz.prog 66 #[.pointer (some ⟨g, 0, none⟩), .string ⟨x.toArray⟩] w3 fun e w' => e = .panicked [FlawE (placeK L n k1) er] ∧ OnlyG g w3 w') := hH
      have hR1 := HR.out
      rw [hc] at hR1
      have HR1 : Hid (R = .error (k1, er)) := hR1
      have HS : Hid (∀ w', OnlyG g w3 w' → Since w0 w') := fun w' hk => only_new0 HP.out hk
      clear HC hH hR1 HR hc hgood HA0
      go_wp2_with fail
      refine HC2.out.mono ?_
      rintro e wz ⟨rfl, hk⟩
      go_wp2_with fail
      exact ⟨rfl, hbad.out _ _ _ HR1.out (HS.out _ hk)⟩
    | ok r2 =>
      have hH := HC.out
      rw [hc] at hH
      have HC2 : Hid (Calls Tryz.prog 66 #[.pointer (some ⟨g, 0, none⟩), .string ⟨x.toArray⟩] w3 fun e w' => e = .returned (.tuple #[]) ∧ Prs w0 w' g lv L n r2 c3 c4 c5 c6 c7 c8 c9 (c10) ∧ OnlyG g w3 w') := hH
      have hR1 := HR.out
      rw [hc] at hR1
      simp only at hR1
      replace HR := Lib.hid hR1
      clear HC hH hR1 hc
      go_wp2_with fail
      refine HC2.out.mono ?_
      rintro e w4 ⟨rfl, hp2, hk2⟩
      replace HP := Lib.hid hp2
      replace HG := Lib.hid (only_only HG.out hk2)
      replace HBb := hk2.cel HBb HBg.out
      clear HC2 hp2 hk2 e3_
      go_upto_region 3 with (fail)
      obtain ⟨i, hi⟩ : ∃ i, Hid (i = L.length - r2.length) := ⟨_, rfl⟩
      obtain ⟨va, vc, rfl⟩ := own_slice HP.out.par.row
      have d0 : w4.cell? ⟨g, 0, none⟩ = some (.slice va L.length vc) := HP.out.par.cel.cell 0
      have d1 : w4.cell? ⟨g, 1, none⟩ = some (.int .i64 (i : Int)) := by rw [hi.out]; exact HP.out.par.cel.cell 1
      have hle := HP.out.par.le
      by_cases h0 : r2.length = 0
      · have hl1 : ¬ (i : Int) < (L.length : Int) := by rw [hi.out]; omega
        have HR3 : Hid (R = .ok ((a_s, a_p, a_n, (a_v0, a_l0), (a_v1, a_l1), (a_v2, a_l2), (a_v3, a_l3)) : Atm)) := by show _ = _; rw [HR.out, if_pos h0]
        go_quiet (fail)
        rename_i nq
        have hS9 : Since w4 (w4.drewN nq) := (Since.refl w4).drewN nq
        have hB9 := HBb.next hS9
        have hA9 := HA0.out.next (HP.out.sin.trans hS9)
        have hk9 : Keep (fun b => b = ab) w0 ((w4.drewN nq).setRow ab #[.string ⟨a_s.toArray⟩, .string ⟨a_p.toArray⟩, .int .i64 a_n, .bool a_v0, .string ⟨a_l0.toArray⟩, .bool a_v1, .string ⟨a_l1.toArray⟩, .bool a_v2, .string ⟨a_l2.toArray⟩, .bool a_v3, .string ⟨a_l3.toArray⟩]) := (Keep.of_since (Z := fun b => b = ab) (HP.out.sin.trans hS9)).trans (row_setRow hA9) (fun _ h => .inl h)
        have hfin := Lib.hid (hgood.out ((a_s, a_p, a_n, (a_v0, a_l0), (a_v1, a_l1), (a_v2, a_l2), (a_v3, a_l3)) : Atm) _ HR3.out hk9 (hA9.row _))
        have hone : Hid (((#[.string ⟨a_s.toArray⟩, .string ⟨a_p.toArray⟩, .int .i64 a_n, .bool a_v0, .string ⟨a_l0.toArray⟩, .bool a_v1, .string ⟨a_l1.toArray⟩, .bool a_v2, .string ⟨a_l2.toArray⟩, .bool a_v3, .string ⟨a_l3.toArray⟩] : Array Value).all (·.oneCell')) = true) := by show _ = _; simp [Value.oneCell']
        have e0 : (w4.drewN nq).cell? ⟨bb, 0, none⟩ = some (.string ⟨a_s.toArray⟩) := hB9.cell 0
        have e1 : (w4.drewN nq).cell? ⟨bb, 1, none⟩ = some (.string ⟨a_p.toArray⟩) := hB9.cell 1
        have e2 : (w4.drewN nq).cell? ⟨bb, 2, none⟩ = some (.int .i64 a_n) := hB9.cell 2
        have e3 : (w4.drewN nq).cell? ⟨bb, 3, none⟩ = some (.bool a_v0) := hB9.cell 3
        have e4 : (w4.drewN nq).cell? ⟨bb, 4, none⟩ = some (.string ⟨a_l0.toArray⟩) := hB9.cell 4
        have e5 : (w4.drewN nq).cell? ⟨bb, 5, none⟩ = some (.bool a_v1) := hB9.cell 5
        have e6 : (w4.drewN nq).cell? ⟨bb, 6, none⟩ = some (.string ⟨a_l1.toArray⟩) := hB9.cell 6
        have e7 : (w4.drewN nq).cell? ⟨bb, 7, none⟩ = some (.bool a_v2) := hB9.cell 7
        have e8 : (w4.drewN nq).cell? ⟨bb, 8, none⟩ = some (.string ⟨a_l2.toArray⟩) := hB9.cell 8
        have e9 : (w4.drewN nq).cell? ⟨bb, 9, none⟩ = some (.bool a_v3) := hB9.cell 9
        have e10 : (w4.drewN nq).cell? ⟨bb, 10, none⟩ = some (.string ⟨a_l3.toArray⟩) := hB9.cell 10
        have hi2 : (w4.drewN nq).heap[ab]? = some (.cells #[.string ⟨#[]⟩, .string ⟨#[]⟩, .int .i64 0, .bool false, .string ⟨#[]⟩, .bool false, .string ⟨#[]⟩, .bool false, .string ⟨#[]⟩, .bool false, .string ⟨#[]⟩] 44 (0, 0)) := hA9
        generalize w4.drewN nq = wd at *
        clear hA9 hB9 hk9 hS9 HP HG HR HR3 hi hle d0 d1 HBb
        go_wp2_with (refine wpList_store_row rfl 44 (.tmp 2) (.tmp 28) rfl ab #[.string ⟨a_s.toArray⟩, .string ⟨a_p.toArray⟩, .int .i64 a_n, .bool a_v0, .string ⟨a_l0.toArray⟩, .bool a_v1, .string ⟨a_l1.toArray⟩, .bool a_v2, .string ⟨a_l2.toArray⟩, .bool a_v3, .string ⟨a_l3.toArray⟩] rfl rfl 44 #[.string ⟨#[]⟩, .string ⟨#[]⟩, .int .i64 0, .bool false, .string ⟨#[]⟩, .bool false, .string ⟨#[]⟩, .bool false, .string ⟨#[]⟩, .bool false, .string ⟨#[]⟩] hi2 ainfoC rfl hone.out ?_)
        go_end0
        exact hfin.out
      · have hl1 : (i : Int) < (L.length : Int) := by rw [hi.out]; omega
        have HR3 : Hid (R = .error (r2.length, 3)) := by show _ = _; rw [HR.out, if_neg h0]
        go_quiet (fail)
        rename_i nq
        have hS9 : Since w4 (w4.drewN nq) := (Since.refl w4).drewN nq
        have hP9 := HP.out.next hS9
        have HF := Lib.hid (pfail_here 3 (w4.drewN nq) hP9.par)
        rw [← hi.out] at HF
        have c9 : (w4.drewN nq).cell? ⟨g, 1, none⟩ = some (.int .i64 (i : Int)) := by rw [hi.out]; exact hP9.par.cel.cell 1
        have HS9 := Lib.hid hP9.sin
        generalize w4.drewN nq = wd at *
        clear hP9 HP HG HR hS9 hle d0 d1 hi HBb
        go_wp2_with fail
        refine HF.out.mono ?_
        rintro e wz ⟨rfl, hz⟩
        go_wp2_with fail
        exact ⟨rfl, hbad.out _ _ _ HR3.out (HS9.out.trans hz)⟩
set_option maxHeartbeats 4000000 in
set_option maxRecDepth 100000 in
theorem one_0 (s : Txt) (hs : s.length ≤ maxLen) (w : World) (hE : EnvT w) : Calls Tryz.prog 47 #[.string ⟨s.toArray⟩, .string ⟨#[]⟩] w fun e w' => e = .returned (.tuple #[.agg (atmC (oneL none s).1), .int .i64 ((oneL none s).2.1 : Int), .int .i64 (oneL none s).2.2]) ∧ Since w w' := by
  have hmf : ∀ (fn : Fn) (first cap : Array Value) (w : World), (Instr.makeFunc fn first cap).run Tryz.prog w = .ok (.func fn first cap) w := fun _ _ _ _ => rfl
  have hS1 : Since w ((w.alloc (.cells #[.string ⟨#[]⟩] 9)).alloc (.cells #[.string ⟨#[]⟩, .string ⟨#[]⟩, .int .i64 0, .bool false, .string ⟨#[]⟩, .bool false, .string ⟨#[]⟩, .bool false, .string ⟨#[]⟩, .bool false, .string ⟨#[]⟩] 44)) := ((Since.refl w).alloc _).alloc _
  have hE1 : Cel ((w.alloc (.cells #[.string ⟨#[]⟩] 9)).alloc (.cells #[.string ⟨#[]⟩, .string ⟨#[]⟩, .int .i64 0, .bool false, .string ⟨#[]⟩, .bool false, .string ⟨#[]⟩, .bool false, .string ⟨#[]⟩, .bool false, .string ⟨#[]⟩] 44)) w.heap.size #[.string ⟨#[]⟩] 9 := Cel.next (heap_alloc_new w _) ((Since.refl _).alloc _)
  have hA1 : Cel ((w.alloc (.cells #[.string ⟨#[]⟩] 9)).alloc (.cells #[.string ⟨#[]⟩, .string ⟨#[]⟩, .int .i64 0, .bool false, .string ⟨#[]⟩, .bool false, .string ⟨#[]⟩, .bool false, .string ⟨#[]⟩, .bool false, .string ⟨#[]⟩] 44)) (w.heap.size + 1) #[.string ⟨#[]⟩, .string ⟨#[]⟩, .int .i64 0, .bool false, .string ⟨#[]⟩, .bool false, .string ⟨#[]⟩, .bool false, .string ⟨#[]⟩, .bool false, .string ⟨#[]⟩] 44 := by
    have k := heap_alloc_new (w.alloc (.cells #[.string ⟨#[]⟩] 9)) (.cells #[.string ⟨#[]⟩, .string ⟨#[]⟩, .int .i64 0, .bool false, .string ⟨#[]⟩, .bool false, .string ⟨#[]⟩, .bool false, .string ⟨#[]⟩, .bool false, .string ⟨#[]⟩] 44)
    rw [show (w.alloc (.cells #[.string ⟨#[]⟩] 9)).heap.size = w.heap.size + 1 by simp] at k
    exact k
  have hsz : ((w.alloc (.cells #[.string ⟨#[]⟩] 9)).alloc (.cells #[.string ⟨#[]⟩, .string ⟨#[]⟩, .int .i64 0, .bool false, .string ⟨#[]⟩, .bool false, .string ⟨#[]⟩, .bool false, .string ⟨#[]⟩, .bool false, .string ⟨#[]⟩] 44)).heap.size = w.heap.size + 2 := by simp
  have HG : Hid (Calls Tryz.prog 36 #[.string ⟨s.toArray⟩, .func (.func 72) #[] #[.pointer (some ⟨w.heap.size, 0, none⟩), .pointer (some ⟨w.heap.size + 1, 0, none⟩)]] ((w.alloc (.cells #[.string ⟨#[]⟩] 9)).alloc (.cells #[.string ⟨#[]⟩, .string ⟨#[]⟩, .int .i64 0, .bool false, .string ⟨#[]⟩, .bool false, .string ⟨#[]⟩, .bool false, .string ⟨#[]⟩, .bool false, .string ⟨#[]⟩] 44)) fun e w' => e = .returned (.tuple #[.int .i64 ((oneL none s).2.1 : Int), .int .i64 (oneL none s).2.2]) ∧ Cel w' (w.heap.size + 1) (atmC (oneL none s).1) 44 ∧ Since w w') := by
    refine (guarded_any s hs 72 #[.pointer (some ⟨w.heap.size, 0, none⟩), .pointer (some ⟨w.heap.size + 1, 0, none⟩)] (fun _ _ => (by kernel_rfl)) ((w.alloc (.cells #[.string ⟨#[]⟩] 9)).alloc (.cells #[.string ⟨#[]⟩, .string ⟨#[]⟩, .int .i64 0, .bool false, .string ⟨#[]⟩, .bool false, .string ⟨#[]⟩, .bool false, .string ⟨#[]⟩, .bool false, .string ⟨#[]⟩] 44)) (hE.next hS1) (w.heap.size + 1) hA1.lt (oneT none) (fun _ a W => Cel W (w.heap.size + 1) (atmC a) 44) ?_ ?_).mono ?_
    · intro D a W W' h hk
      exact hk.cel h (fun h => by have := h.1; rw [hsz] at this; omega)
    · intro W4 W g lv b hS hX
      exact one1_0 w.heap.size (w.heap.size + 1) _ W (hE1.next hS) (hA1.next hS) hX.prs
    · intro e w' h
      unfold GOut at h
      unfold oneL
      by_cases h0 : (allL s).2.2 = 0
      · rw [if_pos h0] at h ⊢
        cases hq : oneT none (txtsK (allL s).1) with
        | error x =>
          obtain ⟨k, er⟩ := x
          rw [hq] at h
          obtain ⟨h1, h2⟩ := h
          exact ⟨h1, hA1.next h2, hS1.trans h2⟩
        | ok a =>
          rw [hq] at h
          obtain ⟨h1, h2, D, h3, h4⟩ := h
          exact ⟨h1, h4, h2.since hS1 (fun x hx => by rw [hx]; omega)⟩
      · rw [if_neg h0] at h ⊢
        exact ⟨h.1, hA1.next h.2, hS1.trans h.2⟩
  obtain ⟨⟨⟨a_s, a_p, a_n, ⟨a_v0, a_l0⟩, ⟨a_v1, a_l1⟩, ⟨a_v2, a_l2⟩, ⟨a_v3, a_l3⟩⟩, A, B⟩, hR⟩ : ∃ R, Hid (R = oneL none s) := ⟨_, rfl⟩
  rw [← hR.out] at HG ⊢
  obtain ⟨K, hK⟩ : ∃ K : Ending → World → Prop, Hid (K = fun e w' => e = .returned (.tuple #[.agg #[.string ⟨a_s.toArray⟩, .string ⟨a_p.toArray⟩, .int .i64 a_n, .bool a_v0, .string ⟨a_l0.toArray⟩, .bool a_v1, .string ⟨a_l1.toArray⟩, .bool a_v2, .string ⟨a_l2.toArray⟩, .bool a_v3, .string ⟨a_l3.toArray⟩], .int .i64 (A : Int), .int .i64 B]) ∧ Since w w') := ⟨_, rfl⟩
  have hgood : Hid (∀ w', Since w w' → K (.returned (.tuple #[.agg #[.string ⟨a_s.toArray⟩, .string ⟨a_p.toArray⟩, .int .i64 a_n, .bool a_v0, .string ⟨a_l0.toArray⟩, .bool a_v1, .string ⟨a_l1.toArray⟩, .bool a_v2, .string ⟨a_l2.toArray⟩, .bool a_v3, .string ⟨a_l3.toArray⟩], .int .i64 (A : Int), .int .i64 B])) w') := fun w' h => by rw [hK.out]; exact ⟨rfl, h⟩
  have hK2 : (fun e w' => e = .returned (.tuple #[.agg #[.string ⟨a_s.toArray⟩, .string ⟨a_p.toArray⟩, .int .i64 a_n, .bool a_v0, .string ⟨a_l0.toArray⟩, .bool a_v1, .string ⟨a_l1.toArray⟩, .bool a_v2, .string ⟨a_l2.toArray⟩, .bool a_v3, .string ⟨a_l3.toArray⟩], .int .i64 (A : Int), .int .i64 B]) ∧ Since w w') = K := hK.out.symm
  show Calls Tryz.prog _ _ w (fun e w' => e = .returned (.tuple #[.agg #[.string ⟨a_s.toArray⟩, .string ⟨a_p.toArray⟩, .int .i64 a_n, .bool a_v0, .string ⟨a_l0.toArray⟩, .bool a_v1, .string ⟨a_l1.toArray⟩, .bool a_v2, .string ⟨a_l2.toArray⟩, .bool a_v3, .string ⟨a_l3.toArray⟩], .int .i64 (A : Int), .int .i64 B]) ∧ Since w w')
  rw [hK2]
  clear hK hK2 hR hE hS1 hE1 hA1 hsz
  go_enter Tryz.func47, Tryz.ntmps47
  go_wp2_with fail
  refine HG.out.mono ?_
  rintro e w2 ⟨rfl, hC, hS⟩
  have k0 : w2.cell? ⟨w.heap.size + 1, 0, none⟩ = some (.string ⟨a_s.toArray⟩) := hC.cell 0
  have k1 : w2.cell? ⟨w.heap.size + 1, 1, none⟩ = some (.string ⟨a_p.toArray⟩) := hC.cell 1
  have k2 : w2.cell? ⟨w.heap.size + 1, 2, none⟩ = some (.int .i64 a_n) := hC.cell 2
  have k3 : w2.cell? ⟨w.heap.size + 1, 3, none⟩ = some (.bool a_v0) := hC.cell 3
  have k4 : w2.cell? ⟨w.heap.size + 1, 4, none⟩ = some (.string ⟨a_l0.toArray⟩) := hC.cell 4
  have k5 : w2.cell? ⟨w.heap.size + 1, 5, none⟩ = some (.bool a_v1) := hC.cell 5
  have k6 : w2.cell? ⟨w.heap.size + 1, 6, none⟩ = some (.string ⟨a_l1.toArray⟩) := hC.cell 6
  have k7 : w2.cell? ⟨w.heap.size + 1, 7, none⟩ = some (.bool a_v2) := hC.cell 7
  have k8 : w2.cell? ⟨w.heap.size + 1, 8, none⟩ = some (.string ⟨a_l2.toArray⟩) := hC.cell 8
  have k9 : w2.cell? ⟨w.heap.size + 1, 9, none⟩ = some (.bool a_v3) := hC.cell 9
  have k10 : w2.cell? ⟨w.heap.size + 1, 10, none⟩ = some (.string ⟨a_l3.toArray⟩) := hC.cell 10
  have hone : Hid (((#[.string ⟨a_s.toArray⟩, .string ⟨a_p.toArray⟩, .int .i64 a_n, .bool a_v0, .string ⟨a_l0.toArray⟩, .bool a_v1, .string ⟨a_l1.toArray⟩, .bool a_v2, .string ⟨a_l2.toArray⟩, .bool a_v3, .string ⟨a_l3.toArray⟩] : Array Value).all (·.oneCell')) = true) := by show _ = _; simp [Value.oneCell']
  have hi2 : w2.heap[w.heap.size + 1]? = some (.cells #[.string ⟨a_s.toArray⟩, .string ⟨a_p.toArray⟩, .int .i64 a_n, .bool a_v0, .string ⟨a_l0.toArray⟩, .bool a_v1, .string ⟨a_l1.toArray⟩, .bool a_v2, .string ⟨a_l2.toArray⟩, .bool a_v3, .string ⟨a_l3.toArray⟩] 44 (0, 0)) := hC
  have hN : Cel (w2.setRow (w.heap.size + 1) #[.string ⟨a_s.toArray⟩, .string ⟨a_p.toArray⟩, .int .i64 a_n, .bool a_v0, .string ⟨a_l0.toArray⟩, .bool a_v1, .string ⟨a_l1.toArray⟩, .bool a_v2, .string ⟨a_l2.toArray⟩, .bool a_v3, .string ⟨a_l3.toArray⟩]) (w.heap.size + 1) #[.string ⟨a_s.toArray⟩, .string ⟨a_p.toArray⟩, .int .i64 a_n, .bool a_v0, .string ⟨a_l0.toArray⟩, .bool a_v1, .string ⟨a_l1.toArray⟩, .bool a_v2, .string ⟨a_l2.toArray⟩, .bool a_v3, .string ⟨a_l3.toArray⟩] 44 := hC.row _
  have hf := Lib.hid (hgood.out (w2.setRow (w.heap.size + 1) #[.string ⟨a_s.toArray⟩, .string ⟨a_p.toArray⟩, .int .i64 a_n, .bool a_v0, .string ⟨a_l0.toArray⟩, .bool a_v1, .string ⟨a_l1.toArray⟩, .bool a_v2, .string ⟨a_l2.toArray⟩, .bool a_v3, .string ⟨a_l3.toArray⟩]) ((row_setRow hC).since hS (fun x hx => by rw [hx]; omega)))
  clear HG hC hS hgood
  go_wp2_with (refine wpList_store_row rfl 44 (.tmp 4) (.tmp 13) rfl (w.heap.size + 1) #[.string ⟨a_s.toArray⟩, .string ⟨a_p.toArray⟩, .int .i64 a_n, .bool a_v0, .string ⟨a_l0.toArray⟩, .bool a_v1, .string ⟨a_l1.toArray⟩, .bool a_v2, .string ⟨a_l2.toArray⟩, .bool a_v3, .string ⟨a_l3.toArray⟩] rfl rfl 44 #[.string ⟨a_s.toArray⟩, .string ⟨a_p.toArray⟩, .int .i64 a_n, .bool a_v0, .string ⟨a_l0.toArray⟩, .bool a_v1, .string ⟨a_l1.toArray⟩, .bool a_v2, .string ⟨a_l2.toArray⟩, .bool a_v3, .string ⟨a_l3.toArray⟩] hi2 ainfoC rfl hone.out ?_)
  generalize w2.setRow (w.heap.size + 1) #[.string ⟨a_s.toArray⟩, .string ⟨a_p.toArray⟩, .int .i64 a_n, .bool a_v0, .string ⟨a_l0.toArray⟩, .bool a_v1, .string ⟨a_l1.toArray⟩, .bool a_v2, .string ⟨a_l2.toArray⟩, .bool a_v3, .string ⟨a_l3.toArray⟩] = wq at *
  have q0 : wq.cell? ⟨w.heap.size + 1, 0, none⟩ = some (.string ⟨a_s.toArray⟩) := hN.cell 0
  have q1 : wq.cell? ⟨w.heap.size + 1, 1, none⟩ = some (.string ⟨a_p.toArray⟩) := hN.cell 1
  have q2 : wq.cell? ⟨w.heap.size + 1, 2, none⟩ = some (.int .i64 a_n) := hN.cell 2
  have q3 : wq.cell? ⟨w.heap.size + 1, 3, none⟩ = some (.bool a_v0) := hN.cell 3
  have q4 : wq.cell? ⟨w.heap.size + 1, 4, none⟩ = some (.string ⟨a_l0.toArray⟩) := hN.cell 4
  have q5 : wq.cell? ⟨w.heap.size + 1, 5, none⟩ = some (.bool a_v1) := hN.cell 5
  have q6 : wq.cell? ⟨w.heap.size + 1, 6, none⟩ = some (.string ⟨a_l1.toArray⟩) := hN.cell 6
  have q7 : wq.cell? ⟨w.heap.size + 1, 7, none⟩ = some (.bool a_v2) := hN.cell 7
  have q8 : wq.cell? ⟨w.heap.size + 1, 8, none⟩ = some (.string ⟨a_l2.toArray⟩) := hN.cell 8
  have q9 : wq.cell? ⟨w.heap.size + 1, 9, none⟩ = some (.bool a_v3) := hN.cell 9
  have q10 : wq.cell? ⟨w.heap.size + 1, 10, none⟩ = some (.string ⟨a_l3.toArray⟩) := hN.cell 10
  refine bodyPost_ret (v := .tuple #[.agg #[.string ⟨a_s.toArray⟩, .string ⟨a_p.toArray⟩, .int .i64 a_n, .bool a_v0, .string ⟨a_l0.toArray⟩, .bool a_v1, .string ⟨a_l1.toArray⟩, .bool a_v2, .string ⟨a_l2.toArray⟩, .bool a_v3, .string ⟨a_l3.toArray⟩], .int .i64 (A : Int), .int .i64 B]) ?_ rfl hf.out
  clear hf hN hi2 hone k0 k1 k2 k3 k4 k5 k6 k7 k8 k9 k10
  simp [results, Tryz.results47, go_sem, q0, q1, q2, q3, q4, q5, q6, q7, q8, q9, q10]
set_option maxHeartbeats 4000000 in
set_option maxRecDepth 100000 in
theorem one_1 (s : Txt) (hs : s.length ≤ maxLen) (x : Txt) (hx : x ≠ []) (w : World) (hE : EnvT w) : Calls Tryz.prog 47 #[.string ⟨s.toArray⟩, .string ⟨x.toArray⟩] w fun e w' => e = .returned (.tuple #[.agg (atmC (oneL (some x) s).1), .int .i64 ((oneL (some x) s).2.1 : Int), .int .i64 (oneL (some x) s).2.2]) ∧ Since w w' := by
  have hmf : ∀ (fn : Fn) (first cap : Array Value) (w : World), (Instr.makeFunc fn first cap).run Tryz.prog w = .ok (.func fn first cap) w := fun _ _ _ _ => rfl
  have hS1 : Since w ((w.alloc (.cells #[.string ⟨x.toArray⟩] 9)).alloc (.cells #[.string ⟨#[]⟩, .string ⟨#[]⟩, .int .i64 0, .bool false, .string ⟨#[]⟩, .bool false, .string ⟨#[]⟩, .bool false, .string ⟨#[]⟩, .bool false, .string ⟨#[]⟩] 44)) := ((Since.refl w).alloc _).alloc _
  have hE1 : Cel ((w.alloc (.cells #[.string ⟨x.toArray⟩] 9)).alloc (.cells #[.string ⟨#[]⟩, .string ⟨#[]⟩, .int .i64 0, .bool false, .string ⟨#[]⟩, .bool false, .string ⟨#[]⟩, .bool false, .string ⟨#[]⟩, .bool false, .string ⟨#[]⟩] 44)) w.heap.size #[.string ⟨x.toArray⟩] 9 := Cel.next (heap_alloc_new w _) ((Since.refl _).alloc _)
  have hA1 : Cel ((w.alloc (.cells #[.string ⟨x.toArray⟩] 9)).alloc (.cells #[.string ⟨#[]⟩, .string ⟨#[]⟩, .int .i64 0, .bool false, .string ⟨#[]⟩, .bool false, .string ⟨#[]⟩, .bool false, .string ⟨#[]⟩, .bool false, .string ⟨#[]⟩] 44)) (w.heap.size + 1) #[.string ⟨#[]⟩, .string ⟨#[]⟩, .int .i64 0, .bool false, .string ⟨#[]⟩, .bool false, .string ⟨#[]⟩, .bool false, .string ⟨#[]⟩, .bool false, .string ⟨#[]⟩] 44 := by
    have k := heap_alloc_new (w.alloc (.cells #[.string ⟨x.toArray⟩] 9)) (.cells #[.string ⟨#[]⟩, .string ⟨#[]⟩, .int .i64 0, .bool false, .string ⟨#[]⟩, .bool false, .string ⟨#[]⟩, .bool false, .string ⟨#[]⟩, .bool false, .string ⟨#[]⟩] 44)
    rw [show (w.alloc (.cells #[.string ⟨x.toArray⟩] 9)).heap.size = w.heap.size + 1 by simp] at k
    exact k
  have hsz : ((w.alloc (.cells #[.string ⟨x.toArray⟩] 9)).alloc (.cells #[.string ⟨#[]⟩, .string ⟨#[]⟩, .int .i64 0, .bool false, .string ⟨#[]⟩, .bool false, .string ⟨#[]⟩, .bool false, .string ⟨#[]⟩, .bool false, .string ⟨#[]⟩] 44)).heap.size = w.heap.size + 2 := by simp
  have HG : Hid (Calls Tryz.prog 36 #[.string ⟨s.toArray⟩, .func (.func 72) #[] #[.pointer (some ⟨w.heap.size, 0, none⟩), .pointer (some ⟨w.heap.size + 1, 0, none⟩)]] ((w.alloc (.cells #[.string ⟨x.toArray⟩] 9)).alloc (.cells #[.string ⟨#[]⟩, .string ⟨#[]⟩, .int .i64 0, .bool false, .string ⟨#[]⟩, .bool false, .string ⟨#[]⟩, .bool false, .string ⟨#[]⟩, .bool false, .string ⟨#[]⟩] 44)) fun e w' => e = .returned (.tuple #[.int .i64 ((oneL (some x) s).2.1 : Int), .int .i64 (oneL (some x) s).2.2]) ∧ Cel w' (w.heap.size + 1) (atmC (oneL (some x) s).1) 44 ∧ Since w w') := by
    refine (guarded_any s hs 72 #[.pointer (some ⟨w.heap.size, 0, none⟩), .pointer (some ⟨w.heap.size + 1, 0, none⟩)] (fun _ _ => (by kernel_rfl)) ((w.alloc (.cells #[.string ⟨x.toArray⟩] 9)).alloc (.cells #[.string ⟨#[]⟩, .string ⟨#[]⟩, .int .i64 0, .bool false, .string ⟨#[]⟩, .bool false, .string ⟨#[]⟩, .bool false, .string ⟨#[]⟩, .bool false, .string ⟨#[]⟩] 44)) (hE.next hS1) (w.heap.size + 1) hA1.lt (oneT (some x)) (fun _ a W => Cel W (w.heap.size + 1) (atmC a) 44) ?_ ?_).mono ?_
    · intro D a W W' h hk
      exact hk.cel h (fun h => by have := h.1; rw [hsz] at this; omega)
    · intro W4 W g lv b hS hX
      exact one1_1 w.heap.size (w.heap.size + 1) x hx (by cases x with | nil => exact absurd rfl hx | cons _ _ => rfl) _ W (hE1.next hS) (hA1.next hS) hX.prs
    · intro e w' h
      unfold GOut at h
      unfold oneL
      by_cases h0 : (allL s).2.2 = 0
      · rw [if_pos h0] at h ⊢
        cases hq : oneT (some x) (txtsK (allL s).1) with
        | error x =>
          obtain ⟨k, er⟩ := x
          rw [hq] at h
          obtain ⟨h1, h2⟩ := h
          exact ⟨h1, hA1.next h2, hS1.trans h2⟩
        | ok a =>
          rw [hq] at h
          obtain ⟨h1, h2, D, h3, h4⟩ := h
          exact ⟨h1, h4, h2.since hS1 (fun x hx => by rw [hx]; omega)⟩
      · rw [if_neg h0] at h ⊢
        exact ⟨h.1, hA1.next h.2, hS1.trans h.2⟩
  obtain ⟨⟨⟨a_s, a_p, a_n, ⟨a_v0, a_l0⟩, ⟨a_v1, a_l1⟩, ⟨a_v2, a_l2⟩, ⟨a_v3, a_l3⟩⟩, A, B⟩, hR⟩ : ∃ R, Hid (R = oneL (some x) s) := ⟨_, rfl⟩
  rw [← hR.out] at HG ⊢
  obtain ⟨K, hK⟩ : ∃ K : Ending → World → Prop, Hid (K = fun e w' => e = .returned (.tuple #[.agg #[.string ⟨a_s.toArray⟩, .string ⟨a_p.toArray⟩, .int .i64 a_n, .bool a_v0, .string ⟨a_l0.toArray⟩, .bool a_v1, .string ⟨a_l1.toArray⟩, .bool a_v2, .string ⟨a_l2.toArray⟩, .bool a_v3, .string ⟨a_l3.toArray⟩], .int .i64 (A : Int), .int .i64 B]) ∧ Since w w') := ⟨_, rfl⟩
  have hgood : Hid (∀ w', Since w w' → K (.returned (.tuple #[.agg #[.string ⟨a_s.toArray⟩, .string ⟨a_p.toArray⟩, .int .i64 a_n, .bool a_v0, .string ⟨a_l0.toArray⟩, .bool a_v1, .string ⟨a_l1.toArray⟩, .bool a_v2, .string ⟨a_l2.toArray⟩, .bool a_v3, .string ⟨a_l3.toArray⟩], .int .i64 (A : Int), .int .i64 B])) w') := fun w' h => by rw [hK.out]; exact ⟨rfl, h⟩
  have hK2 : (fun e w' => e = .returned (.tuple #[.agg #[.string ⟨a_s.toArray⟩, .string ⟨a_p.toArray⟩, .int .i64 a_n, .bool a_v0, .string ⟨a_l0.toArray⟩, .bool a_v1, .string ⟨a_l1.toArray⟩, .bool a_v2, .string ⟨a_l2.toArray⟩, .bool a_v3, .string ⟨a_l3.toArray⟩], .int .i64 (A : Int), .int .i64 B]) ∧ Since w w') = K := hK.out.symm
  show Calls Tryz.prog _ _ w (fun e w' => e = .returned (.tuple #[.agg #[.string ⟨a_s.toArray⟩, .string ⟨a_p.toArray⟩, .int .i64 a_n, .bool a_v0, .string ⟨a_l0.toArray⟩, .bool a_v1, .string ⟨a_l1.toArray⟩, .bool a_v2, .string ⟨a_l2.toArray⟩, .bool a_v3, .string ⟨a_l3.toArray⟩], .int .i64 (A : Int), .int .i64 B]) ∧ Since w w')
  rw [hK2]
  clear hK hK2 hR hE hS1 hE1 hA1 hsz
  go_enter Tryz.func47, Tryz.ntmps47
  go_wp2_with fail
  refine HG.out.mono ?_
  rintro e w2 ⟨rfl, hC, hS⟩
  have k0 : w2.cell? ⟨w.heap.size + 1, 0, none⟩ = some (.string ⟨a_s.toArray⟩) := hC.cell 0
  have k1 : w2.cell? ⟨w.heap.size + 1, 1, none⟩ = some (.string ⟨a_p.toArray⟩) := hC.cell 1
  have k2 : w2.cell? ⟨w.heap.size + 1, 2, none⟩ = some (.int .i64 a_n) := hC.cell 2
  have k3 : w2.cell? ⟨w.heap.size + 1, 3, none⟩ = some (.bool a_v0) := hC.cell 3
  have k4 : w2.cell? ⟨w.heap.size + 1, 4, none⟩ = some (.string ⟨a_l0.toArray⟩) := hC.cell 4
  have k5 : w2.cell? ⟨w.heap.size + 1, 5, none⟩ = some (.bool a_v1) := hC.cell 5
  have k6 : w2.cell? ⟨w.heap.size + 1, 6, none⟩ = some (.string ⟨a_l1.toArray⟩) := hC.cell 6
  have k7 : w2.cell? ⟨w.heap.size + 1, 7, none⟩ = some (.bool a_v2) := hC.cell 7
  have k8 : w2.cell? ⟨w.heap.size + 1, 8, none⟩ = some (.string ⟨a_l2.toArray⟩) := hC.cell 8
  have k9 : w2.cell? ⟨w.heap.size + 1, 9, none⟩ = some (.bool a_v3) := hC.cell 9
  have k10 : w2.cell? ⟨w.heap.size + 1, 10, none⟩ = some (.string ⟨a_l3.toArray⟩) := hC.cell 10
  have hone : Hid (((#[.string ⟨a_s.toArray⟩, .string ⟨a_p.toArray⟩, .int .i64 a_n, .bool a_v0, .string ⟨a_l0.toArray⟩, .bool a_v1, .string ⟨a_l1.toArray⟩, .bool a_v2, .string ⟨a_l2.toArray⟩, .bool a_v3, .string ⟨a_l3.toArray⟩] : Array Value).all (·.oneCell')) = true) := by show _ = _; simp [Value.oneCell']
  have hi2 : w2.heap[w.heap.size + 1]? = some (.cells #[.string ⟨a_s.toArray⟩, .string ⟨a_p.toArray⟩, .int .i64 a_n, .bool a_v0, .string ⟨a_l0.toArray⟩, .bool a_v1, .string ⟨a_l1.toArray⟩, .bool a_v2, .string ⟨a_l2.toArray⟩, .bool a_v3, .string ⟨a_l3.toArray⟩] 44 (0, 0)) := hC
  have hN : Cel (w2.setRow (w.heap.size + 1) #[.string ⟨a_s.toArray⟩, .string ⟨a_p.toArray⟩, .int .i64 a_n, .bool a_v0, .string ⟨a_l0.toArray⟩, .bool a_v1, .string ⟨a_l1.toArray⟩, .bool a_v2, .string ⟨a_l2.toArray⟩, .bool a_v3, .string ⟨a_l3.toArray⟩]) (w.heap.size + 1) #[.string ⟨a_s.toArray⟩, .string ⟨a_p.toArray⟩, .int .i64 a_n, .bool a_v0, .string ⟨a_l0.toArray⟩, .bool a_v1, .string ⟨a_l1.toArray⟩, .bool a_v2, .string ⟨a_l2.toArray⟩, .bool a_v3, .string ⟨a_l3.toArray⟩] 44 := hC.row _
  have hf := Lib.hid (hgood.out (w2.setRow (w.heap.size + 1) #[.string ⟨a_s.toArray⟩, .string ⟨a_p.toArray⟩, .int .i64 a_n, .bool a_v0, .string ⟨a_l0.toArray⟩, .bool a_v1, .string ⟨a_l1.toArray⟩, .bool a_v2, .string ⟨a_l2.toArray⟩, .bool a_v3, .string ⟨a_l3.toArray⟩]) ((row_setRow hC).since hS (fun x hx => by rw [hx]; omega)))
  clear HG hC hS hgood
  go_wp2_with (refine wpList_store_row rfl 44 (.tmp 4) (.tmp 13) rfl (w.heap.size + 1) #[.string ⟨a_s.toArray⟩, .string ⟨a_p.toArray⟩, .int .i64 a_n, .bool a_v0, .string ⟨a_l0.toArray⟩, .bool a_v1, .string ⟨a_l1.toArray⟩, .bool a_v2, .string ⟨a_l2.toArray⟩, .bool a_v3, .string ⟨a_l3.toArray⟩] rfl rfl 44 #[.string ⟨a_s.toArray⟩, .string ⟨a_p.toArray⟩, .int .i64 a_n, .bool a_v0, .string ⟨a_l0.toArray⟩, .bool a_v1, .string ⟨a_l1.toArray⟩, .bool a_v2, .string ⟨a_l2.toArray⟩, .bool a_v3, .string ⟨a_l3.toArray⟩] hi2 ainfoC rfl hone.out ?_)
  generalize w2.setRow (w.heap.size + 1) #[.string ⟨a_s.toArray⟩, .string ⟨a_p.toArray⟩, .int .i64 a_n, .bool a_v0, .string ⟨a_l0.toArray⟩, .bool a_v1, .string ⟨a_l1.toArray⟩, .bool a_v2, .string ⟨a_l2.toArray⟩, .bool a_v3, .string ⟨a_l3.toArray⟩] = wq at *
  have q0 : wq.cell? ⟨w.heap.size + 1, 0, none⟩ = some (.string ⟨a_s.toArray⟩) := hN.cell 0
  have q1 : wq.cell? ⟨w.heap.size + 1, 1, none⟩ = some (.string ⟨a_p.toArray⟩) := hN.cell 1
  have q2 : wq.cell? ⟨w.heap.size + 1, 2, none⟩ = some (.int .i64 a_n) := hN.cell 2
  have q3 : wq.cell? ⟨w.heap.size + 1, 3, none⟩ = some (.bool a_v0) := hN.cell 3
  have q4 : wq.cell? ⟨w.heap.size + 1, 4, none⟩ = some (.string ⟨a_l0.toArray⟩) := hN.cell 4
  have q5 : wq.cell? ⟨w.heap.size + 1, 5, none⟩ = some (.bool a_v1) := hN.cell 5
  have q6 : wq.cell? ⟨w.heap.size + 1, 6, none⟩ = some (.string ⟨a_l1.toArray⟩) := hN.cell 6
  have q7 : wq.cell? ⟨w.heap.size + 1, 7, none⟩ = some (.bool a_v2) := hN.cell 7
  have q8 : wq.cell? ⟨w.heap.size + 1, 8, none⟩ = some (.string ⟨a_l2.toArray⟩) := hN.cell 8
  have q9 : wq.cell? ⟨w.heap.size + 1, 9, none⟩ = some (.bool a_v3) := hN.cell 9
  have q10 : wq.cell? ⟨w.heap.size + 1, 10, none⟩ = some (.string ⟨a_l3.toArray⟩) := hN.cell 10
  refine bodyPost_ret (v := .tuple #[.agg #[.string ⟨a_s.toArray⟩, .string ⟨a_p.toArray⟩, .int .i64 a_n, .bool a_v0, .string ⟨a_l0.toArray⟩, .bool a_v1, .string ⟨a_l1.toArray⟩, .bool a_v2, .string ⟨a_l2.toArray⟩, .bool a_v3, .string ⟨a_l3.toArray⟩], .int .i64 (A : Int), .int .i64 B]) ?_ rfl hf.out
  clear hf hN hi2 hone k0 k1 k2 k3 k4 k5 k6 k7 k8 k9 k10
  simp [results, Tryz.results47, go_sem, q0, q1, q2, q3, q4, q5, q6, q7, q8, q9, q10]
set_option maxHeartbeats 4000000 in
set_option maxRecDepth 100000 in
theorem pub_goal_any (s : Txt) (hs : s.length ≤ maxLen) (w : World) (hE : EnvT w) : Calls Tryz.prog 24 #[.string ⟨s.toArray⟩] w fun e w' => e = .returned (.tuple #[.agg (atmC (oneL (some [63]) s).1), .int .i64 ((oneL (some [63]) s).2.1 : Int), .int .i64 (oneL (some [63]) s).2.2]) ∧ Since w w' := by
  have hS1 : Since w (w.alloc (.cells #[.string ⟨#[]⟩, .string ⟨#[]⟩, .int .i64 0, .bool false, .string ⟨#[]⟩, .bool false, .string ⟨#[]⟩, .bool false, .string ⟨#[]⟩, .bool false, .string ⟨#[]⟩] 44)) := (Since.refl w).alloc _
  have hA1 : Cel (w.alloc (.cells #[.string ⟨#[]⟩, .string ⟨#[]⟩, .int .i64 0, .bool false, .string ⟨#[]⟩, .bool false, .string ⟨#[]⟩, .bool false, .string ⟨#[]⟩, .bool false, .string ⟨#[]⟩] 44)) w.heap.size #[.string ⟨#[]⟩, .string ⟨#[]⟩, .int .i64 0, .bool false, .string ⟨#[]⟩, .bool false, .string ⟨#[]⟩, .bool false, .string ⟨#[]⟩, .bool false, .string ⟨#[]⟩] 44 := heap_alloc_new w _
  have HG := Lib.hid (one_1 s hs [63] (by decide) (w.alloc (.cells #[.string ⟨#[]⟩, .string ⟨#[]⟩, .int .i64 0, .bool false, .string ⟨#[]⟩, .bool false, .string ⟨#[]⟩, .bool false, .string ⟨#[]⟩, .bool false, .string ⟨#[]⟩] 44)) (hE.next hS1))
  obtain ⟨⟨⟨a_s, a_p, a_n, ⟨a_v0, a_l0⟩, ⟨a_v1, a_l1⟩, ⟨a_v2, a_l2⟩, ⟨a_v3, a_l3⟩⟩, A, B⟩, hR⟩ : ∃ R, Hid (R = oneL (some [63]) s) := ⟨_, rfl⟩
  rw [← hR.out] at HG ⊢
  have HG2 : Hid (Calls Tryz.prog 47 #[.string ⟨s.toArray⟩, .string ⟨#[63]⟩] (w.alloc (.cells #[.string ⟨#[]⟩, .string ⟨#[]⟩, .int .i64 0, .bool false, .string ⟨#[]⟩, .bool false, .string ⟨#[]⟩, .bool false, .string ⟨#[]⟩, .bool false, .string ⟨#[]⟩] 44)) fun e w' => e = .returned (.tuple #[.agg #[.string ⟨a_s.toArray⟩, .string ⟨a_p.toArray⟩, .int .i64 a_n, .bool a_v0, .string ⟨a_l0.toArray⟩, .bool a_v1, .string ⟨a_l1.toArray⟩, .bool a_v2, .string ⟨a_l2.toArray⟩, .bool a_v3, .string ⟨a_l3.toArray⟩], .int .i64 (A : Int), .int .i64 B]) ∧ Since (w.alloc (.cells #[.string ⟨#[]⟩, .string ⟨#[]⟩, .int .i64 0, .bool false, .string ⟨#[]⟩, .bool false, .string ⟨#[]⟩, .bool false, .string ⟨#[]⟩, .bool false, .string ⟨#[]⟩] 44)) w') := HG.out
  obtain ⟨K, hK⟩ : ∃ K : Ending → World → Prop, Hid (K = fun e w' => e = .returned (.tuple #[.agg #[.string ⟨a_s.toArray⟩, .string ⟨a_p.toArray⟩, .int .i64 a_n, .bool a_v0, .string ⟨a_l0.toArray⟩, .bool a_v1, .string ⟨a_l1.toArray⟩, .bool a_v2, .string ⟨a_l2.toArray⟩, .bool a_v3, .string ⟨a_l3.toArray⟩], .int .i64 (A : Int), .int .i64 B]) ∧ Since w w') := ⟨_, rfl⟩
  have hgood : Hid (∀ w', Since w w' → K (.returned (.tuple #[.agg #[.string ⟨a_s.toArray⟩, .string ⟨a_p.toArray⟩, .int .i64 a_n, .bool a_v0, .string ⟨a_l0.toArray⟩, .bool a_v1, .string ⟨a_l1.toArray⟩, .bool a_v2, .string ⟨a_l2.toArray⟩, .bool a_v3, .string ⟨a_l3.toArray⟩], .int .i64 (A : Int), .int .i64 B])) w') := fun w' h => by rw [hK.out]; exact ⟨rfl, h⟩
  have hK2 : (fun e w' => e = .returned (.tuple #[.agg #[.string ⟨a_s.toArray⟩, .string ⟨a_p.toArray⟩, .int .i64 a_n, .bool a_v0, .string ⟨a_l0.toArray⟩, .bool a_v1, .string ⟨a_l1.toArray⟩, .bool a_v2, .string ⟨a_l2.toArray⟩, .bool a_v3, .string ⟨a_l3.toArray⟩], .int .i64 (A : Int), .int .i64 B]) ∧ Since w w') = K := hK.out.symm
  show Calls Tryz.prog _ _ w (fun e w' => e = .returned (.tuple #[.agg #[.string ⟨a_s.toArray⟩, .string ⟨a_p.toArray⟩, .int .i64 a_n, .bool a_v0, .string ⟨a_l0.toArray⟩, .bool a_v1, .string ⟨a_l1.toArray⟩, .bool a_v2, .string ⟨a_l2.toArray⟩, .bool a_v3, .string ⟨a_l3.toArray⟩], .int .i64 (A : Int), .int .i64 B]) ∧ Since w w')
  rw [hK2]
  have HA := Lib.hid hA1
  have HS := Lib.hid hS1
  clear hK hK2 hR hE HG hA1 hS1
  go_enter Tryz.func24, Tryz.ntmps24
  go_wp2_with fail
  refine HG2.out.mono ?_
  rintro e w2 ⟨rfl, hS⟩
  have hC := HA.out.next hS
  have hone : Hid (((#[.string ⟨a_s.toArray⟩, .string ⟨a_p.toArray⟩, .int .i64 a_n, .bool a_v0, .string ⟨a_l0.toArray⟩, .bool a_v1, .string ⟨a_l1.toArray⟩, .bool a_v2, .string ⟨a_l2.toArray⟩, .bool a_v3, .string ⟨a_l3.toArray⟩] : Array Value).all (·.oneCell')) = true) := by show _ = _; simp [Value.oneCell']
  have hi2 : w2.heap[w.heap.size]? = some (.cells #[.string ⟨#[]⟩, .string ⟨#[]⟩, .int .i64 0, .bool false, .string ⟨#[]⟩, .bool false, .string ⟨#[]⟩, .bool false, .string ⟨#[]⟩, .bool false, .string ⟨#[]⟩] 44 (0, 0)) := hC
  have hN : Cel (w2.setRow w.heap.size #[.string ⟨a_s.toArray⟩, .string ⟨a_p.toArray⟩, .int .i64 a_n, .bool a_v0, .string ⟨a_l0.toArray⟩, .bool a_v1, .string ⟨a_l1.toArray⟩, .bool a_v2, .string ⟨a_l2.toArray⟩, .bool a_v3, .string ⟨a_l3.toArray⟩]) w.heap.size #[.string ⟨a_s.toArray⟩, .string ⟨a_p.toArray⟩, .int .i64 a_n, .bool a_v0, .string ⟨a_l0.toArray⟩, .bool a_v1, .string ⟨a_l1.toArray⟩, .bool a_v2, .string ⟨a_l2.toArray⟩, .bool a_v3, .string ⟨a_l3.toArray⟩] 44 := hC.row _
  have hf := Lib.hid (hgood.out (w2.setRow w.heap.size #[.string ⟨a_s.toArray⟩, .string ⟨a_p.toArray⟩, .int .i64 a_n, .bool a_v0, .string ⟨a_l0.toArray⟩, .bool a_v1, .string ⟨a_l1.toArray⟩, .bool a_v2, .string ⟨a_l2.toArray⟩, .bool a_v3, .string ⟨a_l3.toArray⟩]) ((row_setRow hC).since (HS.out.trans hS) (fun x hx => by rw [hx]; exact Nat.le_refl _)))
  clear HG2 hC hS hgood HA HS
  go_wp2_with (refine wpList_store_row rfl 44 (.tmp 2) (.tmp 7) rfl w.heap.size #[.string ⟨a_s.toArray⟩, .string ⟨a_p.toArray⟩, .int .i64 a_n, .bool a_v0, .string ⟨a_l0.toArray⟩, .bool a_v1, .string ⟨a_l1.toArray⟩, .bool a_v2, .string ⟨a_l2.toArray⟩, .bool a_v3, .string ⟨a_l3.toArray⟩] rfl rfl 44 #[.string ⟨#[]⟩, .string ⟨#[]⟩, .int .i64 0, .bool false, .string ⟨#[]⟩, .bool false, .string ⟨#[]⟩, .bool false, .string ⟨#[]⟩, .bool false, .string ⟨#[]⟩] hi2 ainfoC rfl hone.out ?_)
  generalize w2.setRow w.heap.size #[.string ⟨a_s.toArray⟩, .string ⟨a_p.toArray⟩, .int .i64 a_n, .bool a_v0, .string ⟨a_l0.toArray⟩, .bool a_v1, .string ⟨a_l1.toArray⟩, .bool a_v2, .string ⟨a_l2.toArray⟩, .bool a_v3, .string ⟨a_l3.toArray⟩] = wq at *
  have q0 : wq.cell? ⟨w.heap.size, 0, none⟩ = some (.string ⟨a_s.toArray⟩) := hN.cell 0
  have q1 : wq.cell? ⟨w.heap.size, 1, none⟩ = some (.string ⟨a_p.toArray⟩) := hN.cell 1
  have q2 : wq.cell? ⟨w.heap.size, 2, none⟩ = some (.int .i64 a_n) := hN.cell 2
  have q3 : wq.cell? ⟨w.heap.size, 3, none⟩ = some (.bool a_v0) := hN.cell 3
  have q4 : wq.cell? ⟨w.heap.size, 4, none⟩ = some (.string ⟨a_l0.toArray⟩) := hN.cell 4
  have q5 : wq.cell? ⟨w.heap.size, 5, none⟩ = some (.bool a_v1) := hN.cell 5
  have q6 : wq.cell? ⟨w.heap.size, 6, none⟩ = some (.string ⟨a_l1.toArray⟩) := hN.cell 6
  have q7 : wq.cell? ⟨w.heap.size, 7, none⟩ = some (.bool a_v2) := hN.cell 7
  have q8 : wq.cell? ⟨w.heap.size, 8, none⟩ = some (.string ⟨a_l2.toArray⟩) := hN.cell 8
  have q9 : wq.cell? ⟨w.heap.size, 9, none⟩ = some (.bool a_v3) := hN.cell 9
  have q10 : wq.cell? ⟨w.heap.size, 10, none⟩ = some (.string ⟨a_l3.toArray⟩) := hN.cell 10
  refine bodyPost_ret (v := .tuple #[.agg #[.string ⟨a_s.toArray⟩, .string ⟨a_p.toArray⟩, .int .i64 a_n, .bool a_v0, .string ⟨a_l0.toArray⟩, .bool a_v1, .string ⟨a_l1.toArray⟩, .bool a_v2, .string ⟨a_l2.toArray⟩, .bool a_v3, .string ⟨a_l3.toArray⟩], .int .i64 (A : Int), .int .i64 B]) ?_ rfl hf.out
  clear hf hN hi2 hone
  simp [results, Tryz.results24, go_sem, q0, q1, q2, q3, q4, q5, q6, q7, q8, q9, q10]
set_option maxHeartbeats 4000000 in
set_option maxRecDepth 100000 in
theorem pub_atom_any (s : Txt) (hs : s.length ≤ maxLen) (w : World) (hE : EnvT w) : Calls Tryz.prog 27 #[.string ⟨s.toArray⟩] w fun e w' => e = .returned (.tuple #[.agg (atmC (oneL none s).1), .int .i64 ((oneL none s).2.1 : Int), .int .i64 (oneL none s).2.2]) ∧ Since w w' := by
  have hS1 : Since w (w.alloc (.cells #[.string ⟨#[]⟩, .string ⟨#[]⟩, .int .i64 0, .bool false, .string ⟨#[]⟩, .bool false, .string ⟨#[]⟩, .bool false, .string ⟨#[]⟩, .bool false, .string ⟨#[]⟩] 44)) := (Since.refl w).alloc _
  have hA1 : Cel (w.alloc (.cells #[.string ⟨#[]⟩, .string ⟨#[]⟩, .int .i64 0, .bool false, .string ⟨#[]⟩, .bool false, .string ⟨#[]⟩, .bool false, .string ⟨#[]⟩, .bool false, .string ⟨#[]⟩] 44)) w.heap.size #[.string ⟨#[]⟩, .string ⟨#[]⟩, .int .i64 0, .bool false, .string ⟨#[]⟩, .bool false, .string ⟨#[]⟩, .bool false, .string ⟨#[]⟩, .bool false, .string ⟨#[]⟩] 44 := heap_alloc_new w _
  have HG := Lib.hid (one_0 s hs (w.alloc (.cells #[.string ⟨#[]⟩, .string ⟨#[]⟩, .int .i64 0, .bool false, .string ⟨#[]⟩, .bool false, .string ⟨#[]⟩, .bool false, .string ⟨#[]⟩, .bool false, .string ⟨#[]⟩] 44)) (hE.next hS1))
  obtain ⟨⟨⟨a_s, a_p, a_n, ⟨a_v0, a_l0⟩, ⟨a_v1, a_l1⟩, ⟨a_v2, a_l2⟩, ⟨a_v3, a_l3⟩⟩, A, B⟩, hR⟩ : ∃ R, Hid (R = oneL none s) := ⟨_, rfl⟩
  rw [← hR.out] at HG ⊢
  have HG2 : Hid (Calls Tryz.prog 47 #[.string ⟨s.toArray⟩, .string ⟨#[]⟩] (w.alloc (.cells #[.string ⟨#[]⟩, .string ⟨#[]⟩, .int .i64 0, .bool false, .string ⟨#[]⟩, .bool false, .string ⟨#[]⟩, .bool false, .string ⟨#[]⟩, .bool false, .string ⟨#[]⟩] 44)) fun e w' => e = .returned (.tuple #[.agg #[.string ⟨a_s.toArray⟩, .string ⟨a_p.toArray⟩, .int .i64 a_n, .bool a_v0, .string ⟨a_l0.toArray⟩, .bool a_v1, .string ⟨a_l1.toArray⟩, .bool a_v2, .string ⟨a_l2.toArray⟩, .bool a_v3, .string ⟨a_l3.toArray⟩], .int .i64 (A : Int), .int .i64 B]) ∧ Since (w.alloc (.cells #[.string ⟨#[]⟩, .string ⟨#[]⟩, .int .i64 0, .bool false, .string ⟨#[]⟩, .bool false, .string ⟨#[]⟩, .bool false, .string ⟨#[]⟩, .bool false, .string ⟨#[]⟩] 44)) w') := HG.out
  obtain ⟨K, hK⟩ : ∃ K : Ending → World → Prop, Hid (K = fun e w' => e = .returned (.tuple #[.agg #[.string ⟨a_s.toArray⟩, .string ⟨a_p.toArray⟩, .int .i64 a_n, .bool a_v0, .string ⟨a_l0.toArray⟩, .bool a_v1, .string ⟨a_l1.toArray⟩, .bool a_v2, .string ⟨a_l2.toArray⟩, .bool a_v3, .string ⟨a_l3.toArray⟩], .int .i64 (A : Int), .int .i64 B]) ∧ Since w w') := ⟨_, rfl⟩
  have hgood : Hid (∀ w', Since w w' → K (.returned (.tuple #[.agg #[.string ⟨a_s.toArray⟩, .string ⟨a_p.toArray⟩, .int .i64 a_n, .bool a_v0, .string ⟨a_l0.toArray⟩, .bool a_v1, .string ⟨a_l1.toArray⟩, .bool a_v2, .string ⟨a_l2.toArray⟩, .bool a_v3, .string ⟨a_l3.toArray⟩], .int .i64 (A : Int), .int .i64 B])) w') := fun w' h => by rw [hK.out]; exact ⟨rfl, h⟩
  have hK2 : (fun e w' => e = .returned (.tuple #[.agg #[.string ⟨a_s.toArray⟩, .string ⟨a_p.toArray⟩, .int .i64 a_n, .bool a_v0, .string ⟨a_l0.toArray⟩, .bool a_v1, .string ⟨a_l1.toArray⟩, .bool a_v2, .string ⟨a_l2.toArray⟩, .bool a_v3, .string ⟨a_l3.toArray⟩], .int .i64 (A : Int), .int .i64 B]) ∧ Since w w') = K := hK.out.symm
  show Calls Tryz.prog _ _ w (fun e w' => e = .returned (.tuple #[.agg #[.string ⟨a_s.toArray⟩, .string ⟨a_p.toArray⟩, .int .i64 a_n, .bool a_v0, .string ⟨a_l0.toArray⟩, .bool a_v1, .string ⟨a_l1.toArray⟩, .bool a_v2, .string ⟨a_l2.toArray⟩, .bool a_v3, .string ⟨a_l3.toArray⟩], .int .i64 (A : Int), .int .i64 B]) ∧ Since w w')
  rw [hK2]
  have HA := Lib.hid hA1
  have HS := Lib.hid hS1
  clear hK hK2 hR hE HG hA1 hS1
  go_enter Tryz.func27, Tryz.ntmps27
  go_wp2_with fail
  refine HG2.out.mono ?_
  rintro e w2 ⟨rfl, hS⟩
  have hC := HA.out.next hS
  have hone : Hid (((#[.string ⟨a_s.toArray⟩, .string ⟨a_p.toArray⟩, .int .i64 a_n, .bool a_v0, .string ⟨a_l0.toArray⟩, .bool a_v1, .string ⟨a_l1.toArray⟩, .bool a_v2, .string ⟨a_l2.toArray⟩, .bool a_v3, .string ⟨a_l3.toArray⟩] : Array Value).all (·.oneCell')) = true) := by show _ = _; simp [Value.oneCell']
  have hi2 : w2.heap[w.heap.size]? = some (.cells #[.string ⟨#[]⟩, .string ⟨#[]⟩, .int .i64 0, .bool false, .string ⟨#[]⟩, .bool false, .string ⟨#[]⟩, .bool false, .string ⟨#[]⟩, .bool false, .string ⟨#[]⟩] 44 (0, 0)) := hC
  have hN : Cel (w2.setRow w.heap.size #[.string ⟨a_s.toArray⟩, .string ⟨a_p.toArray⟩, .int .i64 a_n, .bool a_v0, .string ⟨a_l0.toArray⟩, .bool a_v1, .string ⟨a_l1.toArray⟩, .bool a_v2, .string ⟨a_l2.toArray⟩, .bool a_v3, .string ⟨a_l3.toArray⟩]) w.heap.size #[.string ⟨a_s.toArray⟩, .string ⟨a_p.toArray⟩, .int .i64 a_n, .bool a_v0, .string ⟨a_l0.toArray⟩, .bool a_v1, .string ⟨a_l1.toArray⟩, .bool a_v2, .string ⟨a_l2.toArray⟩, .bool a_v3, .string ⟨a_l3.toArray⟩] 44 := hC.row _
  have hf := Lib.hid (hgood.out (w2.setRow w.heap.size #[.string ⟨a_s.toArray⟩, .string ⟨a_p.toArray⟩, .int .i64 a_n, .bool a_v0, .string ⟨a_l0.toArray⟩, .bool a_v1, .string ⟨a_l1.toArray⟩, .bool a_v2, .string ⟨a_l2.toArray⟩, .bool a_v3, .string ⟨a_l3.toArray⟩]) ((row_setRow hC).since (HS.out.trans hS) (fun x hx => by rw [hx]; exact Nat.le_refl _)))
  clear HG2 hC hS hgood HA HS
  go_wp2_with (refine wpList_store_row rfl 44 (.tmp 2) (.tmp 7) rfl w.heap.size #[.string ⟨a_s.toArray⟩, .string ⟨a_p.toArray⟩, .int .i64 a_n, .bool a_v0, .string ⟨a_l0.toArray⟩, .bool a_v1, .string ⟨a_l1.toArray⟩, .bool a_v2, .string ⟨a_l2.toArray⟩, .bool a_v3, .string ⟨a_l3.toArray⟩] rfl rfl 44 #[.string ⟨#[]⟩, .string ⟨#[]⟩, .int .i64 0, .bool false, .string ⟨#[]⟩, .bool false, .string ⟨#[]⟩, .bool false, .string ⟨#[]⟩, .bool false, .string ⟨#[]⟩] hi2 ainfoC rfl hone.out ?_)
  generalize w2.setRow w.heap.size #[.string ⟨a_s.toArray⟩, .string ⟨a_p.toArray⟩, .int .i64 a_n, .bool a_v0, .string ⟨a_l0.toArray⟩, .bool a_v1, .string ⟨a_l1.toArray⟩, .bool a_v2, .string ⟨a_l2.toArray⟩, .bool a_v3, .string ⟨a_l3.toArray⟩] = wq at *
  have q0 : wq.cell? ⟨w.heap.size, 0, none⟩ = some (.string ⟨a_s.toArray⟩) := hN.cell 0
  have q1 : wq.cell? ⟨w.heap.size, 1, none⟩ = some (.string ⟨a_p.toArray⟩) := hN.cell 1
  have q2 : wq.cell? ⟨w.heap.size, 2, none⟩ = some (.int .i64 a_n) := hN.cell 2
  have q3 : wq.cell? ⟨w.heap.size, 3, none⟩ = some (.bool a_v0) := hN.cell 3
  have q4 : wq.cell? ⟨w.heap.size, 4, none⟩ = some (.string ⟨a_l0.toArray⟩) := hN.cell 4
  have q5 : wq.cell? ⟨w.heap.size, 5, none⟩ = some (.bool a_v1) := hN.cell 5
  have q6 : wq.cell? ⟨w.heap.size, 6, none⟩ = some (.string ⟨a_l1.toArray⟩) := hN.cell 6
  have q7 : wq.cell? ⟨w.heap.size, 7, none⟩ = some (.bool a_v2) := hN.cell 7
  have q8 : wq.cell? ⟨w.heap.size, 8, none⟩ = some (.string ⟨a_l2.toArray⟩) := hN.cell 8
  have q9 : wq.cell? ⟨w.heap.size, 9, none⟩ = some (.bool a_v3) := hN.cell 9
  have q10 : wq.cell? ⟨w.heap.size, 10, none⟩ = some (.string ⟨a_l3.toArray⟩) := hN.cell 10
  refine bodyPost_ret (v := .tuple #[.agg #[.string ⟨a_s.toArray⟩, .string ⟨a_p.toArray⟩, .int .i64 a_n, .bool a_v0, .string ⟨a_l0.toArray⟩, .bool a_v1, .string ⟨a_l1.toArray⟩, .bool a_v2, .string ⟨a_l2.toArray⟩, .bool a_v3, .string ⟨a_l3.toArray⟩], .int .i64 (A : Int), .int .i64 B]) ?_ rfl hf.out
  clear hf hN hi2 hone
  simp [results, Tryz.results27, go_sem, q0, q1, q2, q3, q4, q5, q6, q7, q8, q9, q10]
end Go.Proofs.YtnfjjckbgnieeaaGreatDoor
