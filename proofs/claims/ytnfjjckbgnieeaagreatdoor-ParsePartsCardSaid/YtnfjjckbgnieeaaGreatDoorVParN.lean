/- The parser: rules and grants. The parser: a statement; the map from words to methods. The parser: what is panicked with is an error. Parsing of policies. -/
import Derived.Test.YtnfjjckbgnieeaaGreatDoorVParJ
import Derived.Test.YtnfjjckbgnieeaaGreatDoorVLexQ
import Derived.Defers
import Derived.Recover
namespace Go.Proofs.YtnfjjckbgnieeaaGreatDoor
open Go.RowKit

theorem info_ru : (Tryz.prog.info? 47).map (fun i => (i.zero, i.size, i.bytes)) = some (some (.agg #[.string ByteArray.empty, .string ByteArray.empty, .int .i64 0, .bool false, .string ByteArray.empty, .bool false, .string ByteArray.empty, .bool false, .string ByteArray.empty, .bool false, .string ByteArray.empty, .slice none 0 0]), 12, 160) := by kernel_rfl
theorem st_ru {o : Oper} {x y : Operand} {ev : Operand → Value} {g k : Nat} {a : Option Addr} {n c : Nat} {cs : Array Value} {T : TypeId} (ho : o.op = Op.store 26 x y) (hx : ev x = .pointer (some ⟨g, k, none⟩)) (hy : ev y = .slice a n c) (W : World) (h : Cel W g cs T) (hk : (cs[k]?).isSome = true) :
    (execOp ev o).run Tryz.prog W = .ok .skip (W.setCell ⟨g, k, none⟩ (.slice a n c)) := by
  obtain ⟨u, hu⟩ := Option.isSome_iff_exists.1 hk
  have h1 : W.cell? ⟨g, k, none⟩ = some u := (h.cell k).trans hu
  have h2 := h.free k
  simp only [execOp, ho]
  go_simp
theorem info_gr : (Tryz.prog.info? 49).map (fun i => (i.zero, i.size, i.bytes)) = some (some (.agg #[.string ByteArray.empty, .string ByteArray.empty, .string ByteArray.empty, .int .i64 0, .bool false, .string ByteArray.empty, .bool false, .string ByteArray.empty, .bool false, .string ByteArray.empty, .bool false, .string ByteArray.empty, .slice none 0 0]), 13, 176) := by kernel_rfl
theorem st_gr {o : Oper} {x y : Operand} {ev : Operand → Value} {g k : Nat} {a : Option Addr} {n c : Nat} {cs : Array Value} {T : TypeId} (ho : o.op = Op.store 27 x y) (hx : ev x = .pointer (some ⟨g, k, none⟩)) (hy : ev y = .slice a n c) (W : World) (h : Cel W g cs T) (hk : (cs[k]?).isSome = true) :
    (execOp ev o).run Tryz.prog W = .ok .skip (W.setCell ⟨g, k, none⟩ (.slice a n c)) := by
  obtain ⟨u, hu⟩ := Option.isSome_iff_exists.1 hk
  have h1 : W.cell? ⟨g, k, none⟩ = some u := (h.cell k).trans hu
  have h2 := h.free k
  simp only [execOp, ho]
  go_simp
theorem isT_head {s : Txt} (hs : s ≠ []) (r : Toks) : isT s r = decide (r.headD [] = s) := by
  cases r with
  | nil => exact (decide_eq_false (fun e => hs e.symm)).symm
  | cons t q => rfl
theorem beq_dec (x s : Txt) {v : Bool} (h : decide (x = s) = v) : (x == s) = v := by
  rw [← h]
  cases hd : decide (x = s) with
  | true => simp [of_decide_eq_true hd]
  | false => simp [of_decide_eq_false hd]
set_option maxHeartbeats 4000000 in
set_option maxRecDepth 100000 in
theorem psays_ru {w0 : World} {g : Nat} {lv : Value} {L : List Tk} {n : Nat} {st : PSt} {c3 c4 c5 c6 c7 c8 c9 : Value} {C : List (Clr × Value)} {U : List (Rul × Value)} {G : List (Grn × Value)} {b k : Nat} {S : List Txt} (r : Toks) (w : World) (h : StX w0 w g lv L n st r c3 c4 c5 c6 c7 c8 c9 C U G b k S) (hcan : ∀ who r1 r2, nameT principalB r = .ok (who, r1) → mustT wSays r1 = .ok r2 → isT wCansay (r2.drop 1) = false) :
    Calls Tryz.prog 65 #[.pointer (some ⟨g, 0, none⟩)] w (SOut w0 g lv L n (saysT st r)) := by
  obtain ⟨R, hR⟩ : ∃ R, Hid (R = saysT st r) := ⟨_, rfl⟩
  obtain ⟨K, hK⟩ : ∃ K : Ending → World → Prop, Hid (K = SOut w0 g lv L n R) := ⟨_, rfl⟩
  have hbad : Hid (∀ k er w', R = .error (k, er) → Since w0 w' → K (.panicked [FlawE (placeK L n k) er]) w') := fun k er w' e h => by rw [hK.out, e]; exact ⟨rfl, h⟩
  have hgood : Hid (∀ st1 r1 w', R = .ok (st1, r1) → St w0 g lv L n st1 r1 w' → K (.returned (.tuple #[])) w') := fun st1 r1 w' e h => by rw [hK.out, e]; exact ⟨rfl, h⟩
  rw [← hR.out, ← hK.out]
  clear hK
  obtain ⟨i5, hi5, hz0, hz1, hz2⟩ := info_parts info_ru
  have I5 := Lib.hid (And.intro hi5 (And.intro hz0 (And.intro hz1 hz2)))
  obtain ⟨va, vc, rfl⟩ := own_slice h.own.ru.row
  have hCl : U.length = st.p.ru.length := by rw [← h.own.eU, List.length_map]
  have HX := Lib.hid h
  have HP := Lib.hid h.prs
  have HG : Hid (OnlyG g w w) := Keep.refl _ _
  have HLL : Hid (U.length ≤ 70000) := by show _ ≤ _; have := h.room.ru; omega
  have HLQ : Hid (st.p.ru.length + r.length ≤ 70000) := h.room.ru
  have HCAN := Lib.hid hcan
  have hR1 := hR.out
  rw [saysT] at hR1
  have HR := Lib.hid hR1
  clear hi5 hz0 hz1 hz2 h hR hR1 hCl hcan
  go_enter Tryz.func65, Tryz.ntmps65
  have HC := Lib.hid (pprinc_here HP.out)
  cases hc : nameT principalB r with
  | error x =>
    obtain ⟨k1, er⟩ := x
    have hH := HC.out
    rw [hc] at hH
    have HC2 : Hid (Calls Tryz.prog 83 #[.pointer (some ⟨g, 0, none⟩), .func (.func 84) #[] #[]] w fun e w' => e = .panicked [FlawE (placeK L n k1) er] ∧ OnlyG g w w') := hH
    have hR1 := HR.out
    rw [hc] at hR1
    have HR1 : Hid (R = .error (k1, er)) := hR1
    have HS : Hid (∀ w', OnlyG g w w' → Since w0 w') := fun w' hk => only_new0 HP.out hk
    clear HC hH hR1 HR hc hgood HX HLL I5 HG HCAN
    go_wp2_with fail
    refine HC2.out.mono ?_
    rintro e wz ⟨rfl, hk⟩
    go_wp2_with fail
    exact ⟨rfl, hbad.out _ _ _ HR1.out (HS.out _ hk)⟩
  | ok x =>
    obtain ⟨who, r1⟩ := x
    have hH := HC.out
    rw [hc] at hH
    have HC2 : Hid (Calls Tryz.prog 83 #[.pointer (some ⟨g, 0, none⟩), .func (.func 84) #[] #[]] w fun e w' => e = .returned (.string ⟨who.toArray⟩) ∧ Prs w0 w' g lv L n r1 c3 c4 c5 c6 c7 (.slice va U.length vc) c9 (.map (some b)) ∧ OnlyG g w w') := hH
    have hR1 := HR.out
    rw [hc] at hR1
    simp only at hR1
    replace HR := Lib.hid hR1
    have HLE9 : Hid (r1.length ≤ r.length) := by show _ ≤ _; have := congrArg List.length (nameT_ok hc).1; rw [List.length_cons] at this; omega
    have hn1 := hc
    clear HC hH hR1 hc
    go_wp2_with fail
    refine HC2.out.mono ?_
    rintro e w2 ⟨rfl, hp2, hk2⟩
    replace HP := Lib.hid hp2
    replace HG := Lib.hid (only_only HG.out hk2)
    clear HC2 hp2  
    clear hk2
    have HC := Lib.hid (pmust_here wSays HP.out (by decide))
    cases hc : mustT wSays r1 with
    | error x =>
      obtain ⟨k1, er⟩ := x
      have hH := HC.out
      rw [hc] at hH
      have HC2 : Hid (Calls Tryz.prog 66 #[.pointer (some ⟨g, 0, none⟩), .string ⟨#[115, 97, 121, 115]⟩] w2 fun e w' => e = .panicked [FlawE (placeK L n k1) er] ∧ OnlyG g w2 w') := hH
      have hR1 := HR.out
      rw [hc] at hR1
      have HR1 : Hid (R = .error (k1, er)) := hR1
      have HS : Hid (∀ w', OnlyG g w2 w' → Since w0 w') := fun w' hk => only_new0 HP.out hk
      clear HC hH hR1 HR hc hgood HX HLL I5 HG HCAN
      go_wp2_with fail
      refine HC2.out.mono ?_
      rintro e wz ⟨rfl, hk⟩
      go_wp2_with fail
      exact ⟨rfl, hbad.out _ _ _ HR1.out (HS.out _ hk)⟩
    | ok rx =>
      have hH := HC.out
      rw [hc] at hH
      have HC2 : Hid (Calls Tryz.prog 66 #[.pointer (some ⟨g, 0, none⟩), .string ⟨#[115, 97, 121, 115]⟩] w2 fun e w' => e = .returned (.tuple #[]) ∧ Prs w0 w' g lv L n rx c3 c4 c5 c6 c7 (.slice va U.length vc) c9 (.map (some b)) ∧ OnlyG g w2 w') := hH
      have hR1 := HR.out
      rw [hc] at hR1
      simp only at hR1
      replace HR := Lib.hid hR1
      have HLE0 : Hid (rx.length ≤ r.length) := by show _ ≤ _; have := HLE9.out; have := congrArg List.length (mustT_ok hc); rw [List.length_cons] at this; omega
      have hm1 := hc
      clear HC hH hR1 hc
      go_wp2_with fail
      refine HC2.out.mono ?_
      rintro e w3 ⟨rfl, hp2, hk2⟩
      replace HP := Lib.hid hp2
      replace HG := Lib.hid (only_only HG.out hk2)
      clear HC2 hp2 HLE9
      have hcan := HCAN.out who r1 rx hn1 hm1
      clear hn1 hm1 HCAN
      clear hk2
      obtain ⟨x, hxx⟩ : ∃ x, Hid (x = (rx.drop 1).headD []) := ⟨_, rfl⟩
      obtain ⟨i, hi⟩ : ∃ i, Hid (i = L.length - rx.length) := ⟨_, rfl⟩
      have h65 := HP.out.par.len
      have hwi : wrap64 ((i : Int) + 1) = ((i + 1 : Nat) : Int) := by rw [IntWalk.wrap64_in _ (by rw [hi.out]; omega)]; omega
      have HX1 : Hid (Calls Tryz.prog 64 #[.pointer (some ⟨g, 0, none⟩), .int .i64 ((i + 1 : Nat) : Int)] w3 fun e w' => e = .returned (.string ⟨x.toArray⟩) ∧ Since w3 w') := by
        obtain ⟨p, hp⟩ := HP.out.par.suf
        have hq := ptext_at (i + 1) w3 HP.out.par
        have e2 := txt_of hp 1
        rw [← hi.out] at e2
        rw [e2, ← hxx.out] at hq
        exact hq
      have c1 : w3.cell? ⟨g, 1, none⟩ = some (.int .i64 (i : Int)) := by rw [hi.out]; exact HP.out.par.cel.cell 1
      have hxc : (x == [99, 97, 110, 115, 97, 121]) = false := by
        refine beq_dec x wCansay ?_
        rw [hxx.out, ← isT_head (by decide)]
        exact hcan
      have hR1 := HR.out
      rw [hcan] at hR1
      simp only [Bool.false_eq_true, if_false, ruleT] at hR1
      replace HR := Lib.hid hR1
      clear hi hxx hcan h65 hR1
      go_wp2_with fail
      refine HX1.out.mono ?_
      rintro e w4 ⟨rfl, hb4⟩
      replace HP := Lib.hid (HP.out.next hb4)
      replace HG : Hid (OnlyG g w w4) := only_then HG.out hb4
      clear HX1 c1 hb4
      have HC := Lib.hid (psaid_any who rx w4 HP.out)
      cases hc : saidT who rx with
      | error x =>
        obtain ⟨k1, er⟩ := x
        have hH := HC.out
        rw [hc] at hH
        have HC2 : Hid (Calls Tryz.prog 90 #[.pointer (some ⟨g, 0, none⟩), .string ⟨who.toArray⟩] w4 fun e w' => e = .panicked [FlawE (placeK L n k1) er] ∧ OnlyG g w4 w') := hH
        have hR1 := HR.out
        rw [hc] at hR1
        have HR1 : Hid (R = .error (k1, er)) := hR1
        have HS : Hid (∀ w', OnlyG g w4 w' → Since w0 w') := fun w' hk => only_new0 HP.out hk
        clear HC hH hR1 HR hc hgood HX HLL I5 HG
        go_wp2_with fail
        refine HC2.out.mono ?_
        rintro e wz ⟨rfl, hk⟩
        go_wp2_with fail
        exact ⟨rfl, hbad.out _ _ _ HR1.out (HS.out _ hk)⟩
      | ok x =>
        obtain ⟨⟨a_s, a_p, a_n, ⟨a_v0, a_l0⟩, ⟨a_v1, a_l1⟩, ⟨a_v2, a_l2⟩, ⟨a_v3, a_l3⟩⟩, ry⟩ := x
        have hH := HC.out
        rw [hc] at hH
        have HC2 : Hid (Calls Tryz.prog 90 #[.pointer (some ⟨g, 0, none⟩), .string ⟨who.toArray⟩] w4 fun e w' => e = .returned (.agg #[.string ⟨a_s.toArray⟩, .string ⟨a_p.toArray⟩, .int .i64 a_n, .bool a_v0, .string ⟨a_l0.toArray⟩, .bool a_v1, .string ⟨a_l1.toArray⟩, .bool a_v2, .string ⟨a_l2.toArray⟩, .bool a_v3, .string ⟨a_l3.toArray⟩]) ∧ Prs w0 w' g lv L n ry c3 c4 c5 c6 c7 (.slice va U.length vc) c9 (.map (some b)) ∧ OnlyG g w4 w') := hH
        have hR1 := HR.out
        rw [hc] at hR1
        simp only at hR1
        replace HR := Lib.hid hR1
        have HLX : Hid (ry.length + 1 ≤ r.length) := by show _ ≤ _; obtain ⟨p, hp, hp2⟩ := saidT_eats hc; have := HLE0.out; have := congrArg List.length hp2; rw [List.length_append] at this; have : 0 < p.length := List.length_pos_iff.2 hp; omega
        clear HC hH hR1 hc
        go_wp2_with fail
        refine HC2.out.mono ?_
        rintro e w5 ⟨rfl, hp2, hk2⟩
        replace HP := Lib.hid hp2
        replace HG := Lib.hid (only_only HG.out hk2)
        have HGL := Lib.hid HP.out.par.cel.lt
        have HSZ := Lib.hid HG.out.size
        clear HC2 hp2 hk2
        have HLE : Hid (ry.length ≤ r.length) := by show _ ≤ _; have := HLX.out; omega
        have HLR : Hid (st.p.ru.length + ry.length + 1 ≤ 70000) := by show _ ≤ _; have := HLX.out; have := HLQ.out; omega
        clear HLX HLQ
        have hS8 : Since w5 (w5.alloc (.cells #[.string ⟨a_s.toArray⟩, .string ⟨a_p.toArray⟩, .int .i64 a_n, .bool a_v0, .string ⟨a_l0.toArray⟩, .bool a_v1, .string ⟨a_l1.toArray⟩, .bool a_v2, .string ⟨a_l2.toArray⟩, .bool a_v3, .string ⟨a_l3.toArray⟩] 44)) := (Since.refl w5).alloc _
        have hHb : Cel (w5.alloc (.cells #[.string ⟨a_s.toArray⟩, .string ⟨a_p.toArray⟩, .int .i64 a_n, .bool a_v0, .string ⟨a_l0.toArray⟩, .bool a_v1, .string ⟨a_l1.toArray⟩, .bool a_v2, .string ⟨a_l2.toArray⟩, .bool a_v3, .string ⟨a_l3.toArray⟩] 44)) w5.heap.size #[.string ⟨a_s.toArray⟩, .string ⟨a_p.toArray⟩, .int .i64 a_n, .bool a_v0, .string ⟨a_l0.toArray⟩, .bool a_v1, .string ⟨a_l1.toArray⟩, .bool a_v2, .string ⟨a_l2.toArray⟩, .bool a_v3, .string ⟨a_l3.toArray⟩] 44 := heap_alloc_new w5 _
        replace HP := Lib.hid (HP.out.next hS8)
        replace HG : Hid (OnlyG g w (w5.alloc (.cells #[.string ⟨a_s.toArray⟩, .string ⟨a_p.toArray⟩, .int .i64 a_n, .bool a_v0, .string ⟨a_l0.toArray⟩, .bool a_v1, .string ⟨a_l1.toArray⟩, .bool a_v2, .string ⟨a_l2.toArray⟩, .bool a_v3, .string ⟨a_l3.toArray⟩] 44))) := only_then HG.out hS8
        have hgl2 := HGL.out
        have hsz2 := HSZ.out
        go_upto_region 4 with (fail)
        generalize (w5.alloc (.cells #[.string ⟨a_s.toArray⟩, .string ⟨a_p.toArray⟩, .int .i64 a_n, .bool a_v0, .string ⟨a_l0.toArray⟩, .bool a_v1, .string ⟨a_l1.toArray⟩, .bool a_v2, .string ⟨a_l2.toArray⟩, .bool a_v3, .string ⟨a_l3.toArray⟩] 44)) = w8 at *
        obtain ⟨hb, hhb⟩ : ∃ x, Hid (x = w5.heap.size) := ⟨_, rfl⟩
        have HBg : Hid (¬ hb = g) := by show ¬ _; rw [hhb.out]; omega
        simp only [← hhb.out]
        rw [← hhb.out] at hHb
        have HWD : Hid (w.heap.size ≤ w8.drew.heap.size) := by show _ ≤ _; exact Nat.le_trans hsz2 hS8.size
        clear hhb hgl2 hsz2 hS8 HGL HSZ
        have hpD := HP.out.next (Since.refl w8).drew
        have hGD : OnlyG g w w8.drew := only_only HG.out (Keep.of_since (Since.refl w8).drew)
        have HD := Lib.hid (HX.out.only hGD hpD HLE.out)
        have hHD := hHb.next (Since.refl w8).drew
        have hT : At w8.drew hb 0 #[.string ⟨a_s.toArray⟩, .string ⟨a_p.toArray⟩, .int .i64 a_n, .bool a_v0, .string ⟨a_l0.toArray⟩, .bool a_v1, .string ⟨a_l1.toArray⟩, .bool a_v2, .string ⟨a_l2.toArray⟩, .bool a_v3, .string ⟨a_l3.toArray⟩] := hHD.at
        have HC := Lib.hid (pbody_any ry w8.drew HD.out.prs)
        have hc0 : w8.drew.cell? ⟨g, 8, none⟩ = some (.slice va U.length vc) := HD.out.prs.par.cel.cell 8
        clear hpD hGD HG HP hHb
        cases hc : bodyT ry with
        | error x =>
          obtain ⟨k1, er⟩ := x
          have hH := HC.out
          rw [hc] at hH
          have HC2 : Hid (Calls Tryz.prog 91 #[.pointer (some ⟨g, 0, none⟩)] w8.drew fun e w' => e = .panicked [FlawE (placeK L n k1) er] ∧ OnlyG g w8.drew w') := hH
          have hR1 := HR.out
          rw [hc] at hR1
          have HR1 : Hid (R = .error (k1, er)) := hR1
          have HS : Hid (∀ w', OnlyG g w8.drew w' → Since w0 w') := fun w' hk => only_new0 HD.out.prs hk
          clear HC hH hR1 HR hc hgood HD HX HLL I5 HLE HLR
          refine hx_begin (S := fun W => At W hb 0 #[.string ⟨a_s.toArray⟩, .string ⟨a_p.toArray⟩, .int .i64 a_n, .bool a_v0, .string ⟨a_l0.toArray⟩, .bool a_v1, .string ⟨a_l1.toArray⟩, .bool a_v2, .string ⟨a_l2.toArray⟩, .bool a_v3, .string ⟨a_l3.toArray⟩]) (by kernel_rfl) hT (by kernel_rfl) (fun _ _ _ _ _ h => h) (fun hns hQ => ?_)
          refine hx_take (i := 0) (oi := _) (v := .pointer (some ⟨g, 0, none⟩)) rfl rfl hns (by kernel_rfl) (by kernel_rfl) hQ (by kernel_rfl) (fun _ _ => (by kernel_rfl)) hT ?_
          refine hx_take (i := 1) (oi := _) (v := .pointer (some ⟨g, 0, none⟩)) rfl rfl hns (by kernel_rfl) (by kernel_rfl) hQ (by kernel_rfl) (fun _ _ => (by kernel_rfl)) hT ?_
          refine hx_take (i := 2) (oi := _) (v := .pointer (some ⟨g, 0, none⟩)) rfl rfl hns (by kernel_rfl) (by kernel_rfl) hQ (by kernel_rfl) (fun _ _ => (by kernel_rfl)) hT ?_
          refine hx_take (i := 3) (oi := _) (v := .pointer (some ⟨g, 3, none⟩)) rfl rfl hns (by kernel_rfl) (by kernel_rfl) hQ (by kernel_rfl) (fun _ _ => (by kernel_rfl)) hT ?_
          refine hx_take (i := 4) (oi := _) (v := .pointer (some ⟨g, 8, none⟩)) rfl rfl hns (by kernel_rfl) (by kernel_rfl) hQ (by kernel_rfl) (fun _ _ => (by kernel_rfl)) hT ?_
          refine hx_take (i := 6) (oi := _) (v := .agg #[.string ⟨a_s.toArray⟩, .string ⟨a_p.toArray⟩, .int .i64 a_n, .bool a_v0, .string ⟨a_l0.toArray⟩, .bool a_v1, .string ⟨a_l1.toArray⟩, .bool a_v2, .string ⟨a_l2.toArray⟩, .bool a_v3, .string ⟨a_l3.toArray⟩]) rfl rfl hns (by kernel_rfl) (by kernel_rfl) hQ (by kernel_rfl) (fun W hW => ld_at rfl (by kernel_rfl) (by kernel_rfl) (by kernel_rfl) W hW) hT ?_
          refine hx_take (i := 7) (oi := _) (v := .pointer (some ⟨g, 0, none⟩)) rfl rfl hns (by kernel_rfl) (by kernel_rfl) hQ (by kernel_rfl) (fun _ _ => (by kernel_rfl)) hT ?_
          refine hx_two_vp (i := 5) (j := 8) (oi := _) (oj := _) (.slice va U.length vc) w8.drew 91 #[.pointer (some ⟨g, 0, none⟩)] [FlawE (placeK L n k1) er] rfl rfl (by kernel_rfl) (by kernel_rfl) (by kernel_rfl) rfl (ld_one rfl (by kernel_rfl) (by kernel_rfl) _ hc0) hT (by kernel_rfl) HC2.out ?_ ?_
          · refine hx_panic (i := 8) (oi := _) 91 #[.pointer (some ⟨g, 0, none⟩)] [FlawE (placeK L n k1) er] rfl (by kernel_rfl) (by kernel_rfl) (by kernel_rfl) HC2.out ?_
            intro w' hk
            exact ⟨rfl, hbad.out _ _ _ HR1.out (HS.out _ hk)⟩
          · intro w' hk
            exact ⟨rfl, hbad.out _ _ _ HR1.out (HS.out _ hk)⟩
        | ok x =>
          obtain ⟨l, rz⟩ := x
          have hH := HC.out
          rw [hc] at hH
          have HC2 : Hid (Calls Tryz.prog 91 #[.pointer (some ⟨g, 0, none⟩)] w8.drew fun e w' => ∃ v, e = .returned v ∧ w'.ownsRow w8.drew.heap.size 44 11 v l.length (l.flatMap atmL) ∧ l.length ≤ 65536 ∧ Prs w0 w' g lv L n rz c3 c4 c5 c6 c7 (.slice va U.length vc) c9 (.map (some b)) ∧ OnlyG g w8.drew w') := hH
          have hR1 := HR.out
          rw [hc] at hR1
          simp only at hR1
          replace HR := Lib.hid hR1
          have hl1 : rz.length ≤ ry.length := by obtain ⟨p, hp⟩ := bodyT_eats hc; rw [hp, List.length_append]; omega
          clear HC hH hR1 hc hbad
          refine hx_begin (S := fun W => At W hb 0 #[.string ⟨a_s.toArray⟩, .string ⟨a_p.toArray⟩, .int .i64 a_n, .bool a_v0, .string ⟨a_l0.toArray⟩, .bool a_v1, .string ⟨a_l1.toArray⟩, .bool a_v2, .string ⟨a_l2.toArray⟩, .bool a_v3, .string ⟨a_l3.toArray⟩]) (by kernel_rfl) hT (by kernel_rfl) (fun _ _ _ _ _ h => h) (fun hns hQ => ?_)
          refine hx_take (i := 0) (oi := _) (v := .pointer (some ⟨g, 0, none⟩)) rfl rfl hns (by kernel_rfl) (by kernel_rfl) hQ (by kernel_rfl) (fun _ _ => (by kernel_rfl)) hT ?_
          refine hx_take (i := 1) (oi := _) (v := .pointer (some ⟨g, 0, none⟩)) rfl rfl hns (by kernel_rfl) (by kernel_rfl) hQ (by kernel_rfl) (fun _ _ => (by kernel_rfl)) hT ?_
          refine hx_take (i := 2) (oi := _) (v := .pointer (some ⟨g, 0, none⟩)) rfl rfl hns (by kernel_rfl) (by kernel_rfl) hQ (by kernel_rfl) (fun _ _ => (by kernel_rfl)) hT ?_
          refine hx_take (i := 3) (oi := _) (v := .pointer (some ⟨g, 3, none⟩)) rfl rfl hns (by kernel_rfl) (by kernel_rfl) hQ (by kernel_rfl) (fun _ _ => (by kernel_rfl)) hT ?_
          refine hx_take (i := 4) (oi := _) (v := .pointer (some ⟨g, 8, none⟩)) rfl rfl hns (by kernel_rfl) (by kernel_rfl) hQ (by kernel_rfl) (fun _ _ => (by kernel_rfl)) hT ?_
          refine hx_take (i := 6) (oi := _) (v := .agg #[.string ⟨a_s.toArray⟩, .string ⟨a_p.toArray⟩, .int .i64 a_n, .bool a_v0, .string ⟨a_l0.toArray⟩, .bool a_v1, .string ⟨a_l1.toArray⟩, .bool a_v2, .string ⟨a_l2.toArray⟩, .bool a_v3, .string ⟨a_l3.toArray⟩]) rfl rfl hns (by kernel_rfl) (by kernel_rfl) hQ (by kernel_rfl) (fun W hW => ld_at rfl (by kernel_rfl) (by kernel_rfl) (by kernel_rfl) W hW) hT ?_
          refine hx_take (i := 7) (oi := _) (v := .pointer (some ⟨g, 0, none⟩)) rfl rfl hns (by kernel_rfl) (by kernel_rfl) hQ (by kernel_rfl) (fun _ _ => (by kernel_rfl)) hT ?_
          refine hx_two_vc (i := 5) (j := 8) (oi := _) (oj := _) (.slice va U.length vc) w8.drew 91 #[.pointer (some ⟨g, 0, none⟩)] rfl rfl (by kernel_rfl) (by kernel_rfl) (by kernel_rfl) rfl (ld_one rfl (by kernel_rfl) (by kernel_rfl) _ hc0) hT rfl (by kernel_rfl) HC2.out ?_ ?_
          · refine hx_call (i := 8) (oi := _) 91 #[.pointer (some ⟨g, 0, none⟩)] rfl rfl (by kernel_rfl) (by kernel_rfl) (by kernel_rfl) HC2.out ?_
            rintro e w2 ⟨v, rfl, hU, -, hp2, hk2⟩
            obtain ⟨ua, uc, rfl⟩ := own_slice hU
            have hX2 := HD.out.only hk2 hp2 hl1
            have hH2 := hk2.cel hHD HBg.out
            have hU2 := own_base hU HWD.out
            have hm : st.p.ru.length + 1 + rz.length ≤ 70000 := by have := HLR.out; have := hl1; omega
            have hT2 : At w2 hb 0 #[.string ⟨a_s.toArray⟩, .string ⟨a_p.toArray⟩, .int .i64 a_n, .bool a_v0, .string ⟨a_l0.toArray⟩, .bool a_v1, .string ⟨a_l1.toArray⟩, .bool a_v2, .string ⟨a_l2.toArray⟩, .bool a_v3, .string ⟨a_l3.toArray⟩] := hH2.at
            refine ⟨_, rfl, hT2, ?_⟩
            refine hx_take (i := 9) (oi := _) (v := .agg #[.string ⟨a_s.toArray⟩, .string ⟨a_p.toArray⟩, .int .i64 a_n, .bool a_v0, .string ⟨a_l0.toArray⟩, .bool a_v1, .string ⟨a_l1.toArray⟩, .bool a_v2, .string ⟨a_l2.toArray⟩, .bool a_v3, .string ⟨a_l3.toArray⟩, .slice ua l.length uc]) rfl rfl hns (by kernel_rfl) (by kernel_rfl) hQ (by kernel_rfl) (fun _ _ => (by kernel_rfl)) hT2 ?_
            have hS5 : Since w2 (w2.alloc (.cells #[.string ⟨a_s.toArray⟩, .string ⟨a_p.toArray⟩, .int .i64 a_n, .bool a_v0, .string ⟨a_l0.toArray⟩, .bool a_v1, .string ⟨a_l1.toArray⟩, .bool a_v2, .string ⟨a_l2.toArray⟩, .bool a_v3, .string ⟨a_l3.toArray⟩, .slice ua l.length uc] 47)) := (Since.refl w2).alloc _
            have hX5 := hX2.next hS5
            have hH5 := hH2.next hS5
            have hU5 := own_since hU2 hS5
            have hRD := reads_celR (heap_alloc_new w2 (.cells #[.string ⟨a_s.toArray⟩, .string ⟨a_p.toArray⟩, .int .i64 a_n, .bool a_v0, .string ⟨a_l0.toArray⟩, .bool a_v1, .string ⟨a_l1.toArray⟩, .bool a_v2, .string ⟨a_l2.toArray⟩, .bool a_v3, .string ⟨a_l3.toArray⟩, .slice ua l.length uc] 47)) (K := 12) rfl
            have hDD : w0.heap.size ≤ (w2.alloc (.cells #[.string ⟨a_s.toArray⟩, .string ⟨a_p.toArray⟩, .int .i64 a_n, .bool a_v0, .string ⟨a_l0.toArray⟩, .bool a_v1, .string ⟨a_l1.toArray⟩, .bool a_v2, .string ⟨a_l2.toArray⟩, .bool a_v3, .string ⟨a_l3.toArray⟩, .slice ua l.length uc] 47)).heap.size := hX5.prs.sin.size
            have hT5 : At (w2.alloc (.cells #[.string ⟨a_s.toArray⟩, .string ⟨a_p.toArray⟩, .int .i64 a_n, .bool a_v0, .string ⟨a_l0.toArray⟩, .bool a_v1, .string ⟨a_l1.toArray⟩, .bool a_v2, .string ⟨a_l2.toArray⟩, .bool a_v3, .string ⟨a_l3.toArray⟩, .slice ua l.length uc] 47)) hb 0 #[.string ⟨a_s.toArray⟩, .string ⟨a_p.toArray⟩, .int .i64 a_n, .bool a_v0, .string ⟨a_l0.toArray⟩, .bool a_v1, .string ⟨a_l1.toArray⟩, .bool a_v2, .string ⟨a_l2.toArray⟩, .bool a_v3, .string ⟨a_l3.toArray⟩] := hH5.at
            refine hx_make (i := 10) (oi := _) (.slice (some ⟨w2.heap.size, 0, none⟩) 1 1) (w2.alloc (.cells #[.string ⟨a_s.toArray⟩, .string ⟨a_p.toArray⟩, .int .i64 a_n, .bool a_v0, .string ⟨a_l0.toArray⟩, .bool a_v1, .string ⟨a_l1.toArray⟩, .bool a_v2, .string ⟨a_l2.toArray⟩, .bool a_v3, .string ⟨a_l3.toArray⟩, .slice ua l.length uc] 47)) rfl rfl (by kernel_rfl) (by kernel_rfl) (by kernel_rfl) hT5 ?_
            refine hx_append (i := 11) (oi := _) (.tmp 26) (.tmp 31) 26 w0.heap.size 47 i5 (.agg #[.string ByteArray.empty, .string ByteArray.empty, .int .i64 0, .bool false, .string ByteArray.empty, .bool false, .string ByteArray.empty, .bool false, .string ByteArray.empty, .bool false, .string ByteArray.empty, .slice none 0 0]) 12 160 (.slice va U.length vc) U.length _ _ (some ⟨w2.heap.size, 0, none⟩) 1 1 (#[.string ⟨a_s.toArray⟩, .string ⟨a_p.toArray⟩, .int .i64 a_n, .bool a_v0, .string ⟨a_l0.toArray⟩, .bool a_v1, .string ⟨a_l1.toArray⟩, .bool a_v2, .string ⟨a_l2.toArray⟩, .bool a_v3, .string ⟨a_l3.toArray⟩, .slice ua l.length uc] : Array Value).toList rfl rfl (by kernel_rfl) (by kernel_rfl) rfl Tryz.underlying26 I5.out.1 I5.out.2.1 I5.out.2.2.1 I5.out.2.2.2 rfl (by decide) (by kernel_rfl) hX5.own.ru.row (by kernel_rfl) hRD (by simp [Value.oneCell']) (by have := HLL.out; unfold maxLen; omega) (by have := HLL.out; omega) hDD ?_
            intro v6 w6 hown6 hg6 hat6
            obtain ⟨a6, c6', rfl⟩ := own_slice hown6
            have hC6 := (prs_grow hX5.prs hX5.own.ru.row hg6 (by decide) (by decide)).par.cel
            have hf := Lib.hid (push_ru (x := (((a_s, a_p, a_n, (a_v0, a_l0), (a_v1, a_l1), (a_v2, a_l2), (a_v3, a_l3)) : Atm), l)) hX5 HX.out hU5 hown6 hg6 hat6 hm)
            have hH6 := cel_own hH5 hX5.own.ru.row (by decide) hg6
            have hT6 : At w6 hb 0 #[.string ⟨a_s.toArray⟩, .string ⟨a_p.toArray⟩, .int .i64 a_n, .bool a_v0, .string ⟨a_l0.toArray⟩, .bool a_v1, .string ⟨a_l1.toArray⟩, .bool a_v2, .string ⟨a_l2.toArray⟩, .bool a_v3, .string ⟨a_l3.toArray⟩] := hH6.at
            refine ⟨hT6, ?_⟩
            refine hx_take (i := 12) (oi := _) (v := .pointer (some ⟨g, 0, none⟩)) rfl rfl hns (by kernel_rfl) (by kernel_rfl) hQ (by kernel_rfl) (fun _ _ => (by kernel_rfl)) hT6 ?_
            refine hx_take (i := 13) (oi := _) (v := .pointer (some ⟨g, 3, none⟩)) rfl rfl hns (by kernel_rfl) (by kernel_rfl) hQ (by kernel_rfl) (fun _ _ => (by kernel_rfl)) hT6 ?_
            refine hx_take (i := 14) (oi := _) (v := .pointer (some ⟨g, 8, none⟩)) rfl rfl hns (by kernel_rfl) (by kernel_rfl) hQ (by kernel_rfl) (fun _ _ => (by kernel_rfl)) hT6 ?_
            have hT7 : At (w6.setCell ⟨g, 8, none⟩ (.slice a6 (U.length + 1) c6')) hb 0 #[.string ⟨a_s.toArray⟩, .string ⟨a_p.toArray⟩, .int .i64 a_n, .bool a_v0, .string ⟨a_l0.toArray⟩, .bool a_v1, .string ⟨a_l1.toArray⟩, .bool a_v2, .string ⟨a_l2.toArray⟩, .bool a_v3, .string ⟨a_l3.toArray⟩] := (hH6.far (p := ⟨g, 8, none⟩) HBg.out _).at
            refine hx_store (i := 15) (oi := _) (w6.setCell ⟨g, 8, none⟩ (.slice a6 (U.length + 1) c6')) rfl rfl (by kernel_rfl) (by kernel_rfl) (st_ru rfl (by kernel_rfl) (by kernel_rfl) _ hC6 rfl) hT7 ?_
            refine wpAnyH_done (by kernel_rfl) ?_ _
            clear hns hQ
            simp only [List.set_cons_zero, List.set_cons_succ]
            clear hC6 hat6 hown6 hg6 hX5 hRD hDD hT5 hT6 hT7 hT hH2 hH5 hH6 hU2 hU5 hX2 HX I5 i5 HLL
            go_wp2_with fail
            refine bodyPost_ret (results_none rfl _ _ _) rfl ?_
            exact hgood.out _ _ _ HR.out hf.out
          · rintro e w2 ⟨v, rfl, hU, -, hp2, hk2⟩
            obtain ⟨ua, uc, rfl⟩ := own_slice hU
            have hX2 := HD.out.only hk2 hp2 hl1
            have hH2 := hk2.cel hHD HBg.out
            have hU2 := own_base hU HWD.out
            have hm : st.p.ru.length + 1 + rz.length ≤ 70000 := by have := HLR.out; have := hl1; omega
            have hT2 : At w2 hb 0 #[.string ⟨a_s.toArray⟩, .string ⟨a_p.toArray⟩, .int .i64 a_n, .bool a_v0, .string ⟨a_l0.toArray⟩, .bool a_v1, .string ⟨a_l1.toArray⟩, .bool a_v2, .string ⟨a_l2.toArray⟩, .bool a_v3, .string ⟨a_l3.toArray⟩] := hH2.at
            refine ⟨_, rfl, hT2, ?_⟩
            refine hx_take (i := 9) (oi := _) (v := .agg #[.string ⟨a_s.toArray⟩, .string ⟨a_p.toArray⟩, .int .i64 a_n, .bool a_v0, .string ⟨a_l0.toArray⟩, .bool a_v1, .string ⟨a_l1.toArray⟩, .bool a_v2, .string ⟨a_l2.toArray⟩, .bool a_v3, .string ⟨a_l3.toArray⟩, .slice ua l.length uc]) rfl rfl hns (by kernel_rfl) (by kernel_rfl) hQ (by kernel_rfl) (fun _ _ => (by kernel_rfl)) hT2 ?_
            refine hx_two_vv (i := 5) (j := 10) (oi := _) (oj := _) (.slice va U.length vc) w2 (.slice (some ⟨w2.heap.size, 0, none⟩) 1 1) (w2.alloc (.cells #[.string ⟨a_s.toArray⟩, .string ⟨a_p.toArray⟩, .int .i64 a_n, .bool a_v0, .string ⟨a_l0.toArray⟩, .bool a_v1, .string ⟨a_l1.toArray⟩, .bool a_v2, .string ⟨a_l2.toArray⟩, .bool a_v3, .string ⟨a_l3.toArray⟩, .slice ua l.length uc] 47)) rfl rfl (by kernel_rfl) (by kernel_rfl) (by kernel_rfl) rfl (ld_one rfl (by kernel_rfl) (by kernel_rfl) _ (hX2.prs.par.cel.cell 8)) hT2 rfl (by kernel_rfl) (hT2.next ((Since.refl _).alloc _)) ?_ ?_
            · skip
              have hS5 : Since w2 (w2.alloc (.cells #[.string ⟨a_s.toArray⟩, .string ⟨a_p.toArray⟩, .int .i64 a_n, .bool a_v0, .string ⟨a_l0.toArray⟩, .bool a_v1, .string ⟨a_l1.toArray⟩, .bool a_v2, .string ⟨a_l2.toArray⟩, .bool a_v3, .string ⟨a_l3.toArray⟩, .slice ua l.length uc] 47)) := (Since.refl w2).alloc _
              have hX5 := hX2.next hS5
              have hH5 := hH2.next hS5
              have hU5 := own_since hU2 hS5
              have hRD := reads_celR (heap_alloc_new w2 (.cells #[.string ⟨a_s.toArray⟩, .string ⟨a_p.toArray⟩, .int .i64 a_n, .bool a_v0, .string ⟨a_l0.toArray⟩, .bool a_v1, .string ⟨a_l1.toArray⟩, .bool a_v2, .string ⟨a_l2.toArray⟩, .bool a_v3, .string ⟨a_l3.toArray⟩, .slice ua l.length uc] 47)) (K := 12) rfl
              have hDD : w0.heap.size ≤ (w2.alloc (.cells #[.string ⟨a_s.toArray⟩, .string ⟨a_p.toArray⟩, .int .i64 a_n, .bool a_v0, .string ⟨a_l0.toArray⟩, .bool a_v1, .string ⟨a_l1.toArray⟩, .bool a_v2, .string ⟨a_l2.toArray⟩, .bool a_v3, .string ⟨a_l3.toArray⟩, .slice ua l.length uc] 47)).heap.size := hX5.prs.sin.size
              have hT5 : At (w2.alloc (.cells #[.string ⟨a_s.toArray⟩, .string ⟨a_p.toArray⟩, .int .i64 a_n, .bool a_v0, .string ⟨a_l0.toArray⟩, .bool a_v1, .string ⟨a_l1.toArray⟩, .bool a_v2, .string ⟨a_l2.toArray⟩, .bool a_v3, .string ⟨a_l3.toArray⟩, .slice ua l.length uc] 47)) hb 0 #[.string ⟨a_s.toArray⟩, .string ⟨a_p.toArray⟩, .int .i64 a_n, .bool a_v0, .string ⟨a_l0.toArray⟩, .bool a_v1, .string ⟨a_l1.toArray⟩, .bool a_v2, .string ⟨a_l2.toArray⟩, .bool a_v3, .string ⟨a_l3.toArray⟩] := hH5.at
              refine hx_make (i := 10) (oi := _) (.slice (some ⟨w2.heap.size, 0, none⟩) 1 1) (w2.alloc (.cells #[.string ⟨a_s.toArray⟩, .string ⟨a_p.toArray⟩, .int .i64 a_n, .bool a_v0, .string ⟨a_l0.toArray⟩, .bool a_v1, .string ⟨a_l1.toArray⟩, .bool a_v2, .string ⟨a_l2.toArray⟩, .bool a_v3, .string ⟨a_l3.toArray⟩, .slice ua l.length uc] 47)) rfl rfl (by kernel_rfl) (by kernel_rfl) (by kernel_rfl) hT5 ?_
              refine hx_append (i := 11) (oi := _) (.tmp 26) (.tmp 31) 26 w0.heap.size 47 i5 (.agg #[.string ByteArray.empty, .string ByteArray.empty, .int .i64 0, .bool false, .string ByteArray.empty, .bool false, .string ByteArray.empty, .bool false, .string ByteArray.empty, .bool false, .string ByteArray.empty, .slice none 0 0]) 12 160 (.slice va U.length vc) U.length _ _ (some ⟨w2.heap.size, 0, none⟩) 1 1 (#[.string ⟨a_s.toArray⟩, .string ⟨a_p.toArray⟩, .int .i64 a_n, .bool a_v0, .string ⟨a_l0.toArray⟩, .bool a_v1, .string ⟨a_l1.toArray⟩, .bool a_v2, .string ⟨a_l2.toArray⟩, .bool a_v3, .string ⟨a_l3.toArray⟩, .slice ua l.length uc] : Array Value).toList rfl rfl (by kernel_rfl) (by kernel_rfl) rfl Tryz.underlying26 I5.out.1 I5.out.2.1 I5.out.2.2.1 I5.out.2.2.2 rfl (by decide) (by kernel_rfl) hX5.own.ru.row (by kernel_rfl) hRD (by simp [Value.oneCell']) (by have := HLL.out; unfold maxLen; omega) (by have := HLL.out; omega) hDD ?_
              intro v6 w6 hown6 hg6 hat6
              obtain ⟨a6, c6', rfl⟩ := own_slice hown6
              have hC6 := (prs_grow hX5.prs hX5.own.ru.row hg6 (by decide) (by decide)).par.cel
              have hf := Lib.hid (push_ru (x := (((a_s, a_p, a_n, (a_v0, a_l0), (a_v1, a_l1), (a_v2, a_l2), (a_v3, a_l3)) : Atm), l)) hX5 HX.out hU5 hown6 hg6 hat6 hm)
              have hH6 := cel_own hH5 hX5.own.ru.row (by decide) hg6
              have hT6 : At w6 hb 0 #[.string ⟨a_s.toArray⟩, .string ⟨a_p.toArray⟩, .int .i64 a_n, .bool a_v0, .string ⟨a_l0.toArray⟩, .bool a_v1, .string ⟨a_l1.toArray⟩, .bool a_v2, .string ⟨a_l2.toArray⟩, .bool a_v3, .string ⟨a_l3.toArray⟩] := hH6.at
              refine ⟨hT6, ?_⟩
              refine hx_take (i := 12) (oi := _) (v := .pointer (some ⟨g, 0, none⟩)) rfl rfl hns (by kernel_rfl) (by kernel_rfl) hQ (by kernel_rfl) (fun _ _ => (by kernel_rfl)) hT6 ?_
              refine hx_take (i := 13) (oi := _) (v := .pointer (some ⟨g, 3, none⟩)) rfl rfl hns (by kernel_rfl) (by kernel_rfl) hQ (by kernel_rfl) (fun _ _ => (by kernel_rfl)) hT6 ?_
              refine hx_take (i := 14) (oi := _) (v := .pointer (some ⟨g, 8, none⟩)) rfl rfl hns (by kernel_rfl) (by kernel_rfl) hQ (by kernel_rfl) (fun _ _ => (by kernel_rfl)) hT6 ?_
              have hT7 : At (w6.setCell ⟨g, 8, none⟩ (.slice a6 (U.length + 1) c6')) hb 0 #[.string ⟨a_s.toArray⟩, .string ⟨a_p.toArray⟩, .int .i64 a_n, .bool a_v0, .string ⟨a_l0.toArray⟩, .bool a_v1, .string ⟨a_l1.toArray⟩, .bool a_v2, .string ⟨a_l2.toArray⟩, .bool a_v3, .string ⟨a_l3.toArray⟩] := (hH6.far (p := ⟨g, 8, none⟩) HBg.out _).at
              refine hx_store (i := 15) (oi := _) (w6.setCell ⟨g, 8, none⟩ (.slice a6 (U.length + 1) c6')) rfl rfl (by kernel_rfl) (by kernel_rfl) (st_ru rfl (by kernel_rfl) (by kernel_rfl) _ hC6 rfl) hT7 ?_
              refine wpAnyH_done (by kernel_rfl) ?_ _
              clear hns hQ
              simp only [List.set_cons_zero, List.set_cons_succ]
              clear hC6 hat6 hown6 hg6 hX5 hRD hDD hT5 hT6 hT7 hT hH2 hH5 hH6 hU2 hU5 hX2 HX I5 i5 HLL
              go_wp2_with fail
              refine bodyPost_ret (results_none rfl _ _ _) rfl ?_
              exact hgood.out _ _ _ HR.out hf.out
            · skip
              have hS5 : Since w2 (w2.alloc (.cells #[.string ⟨a_s.toArray⟩, .string ⟨a_p.toArray⟩, .int .i64 a_n, .bool a_v0, .string ⟨a_l0.toArray⟩, .bool a_v1, .string ⟨a_l1.toArray⟩, .bool a_v2, .string ⟨a_l2.toArray⟩, .bool a_v3, .string ⟨a_l3.toArray⟩, .slice ua l.length uc] 47)) := (Since.refl w2).alloc _
              have hX5 := hX2.next hS5
              have hH5 := hH2.next hS5
              have hU5 := own_since hU2 hS5
              have hRD := reads_celR (heap_alloc_new w2 (.cells #[.string ⟨a_s.toArray⟩, .string ⟨a_p.toArray⟩, .int .i64 a_n, .bool a_v0, .string ⟨a_l0.toArray⟩, .bool a_v1, .string ⟨a_l1.toArray⟩, .bool a_v2, .string ⟨a_l2.toArray⟩, .bool a_v3, .string ⟨a_l3.toArray⟩, .slice ua l.length uc] 47)) (K := 12) rfl
              have hDD : w0.heap.size ≤ (w2.alloc (.cells #[.string ⟨a_s.toArray⟩, .string ⟨a_p.toArray⟩, .int .i64 a_n, .bool a_v0, .string ⟨a_l0.toArray⟩, .bool a_v1, .string ⟨a_l1.toArray⟩, .bool a_v2, .string ⟨a_l2.toArray⟩, .bool a_v3, .string ⟨a_l3.toArray⟩, .slice ua l.length uc] 47)).heap.size := hX5.prs.sin.size
              have hT5 : At (w2.alloc (.cells #[.string ⟨a_s.toArray⟩, .string ⟨a_p.toArray⟩, .int .i64 a_n, .bool a_v0, .string ⟨a_l0.toArray⟩, .bool a_v1, .string ⟨a_l1.toArray⟩, .bool a_v2, .string ⟨a_l2.toArray⟩, .bool a_v3, .string ⟨a_l3.toArray⟩, .slice ua l.length uc] 47)) hb 0 #[.string ⟨a_s.toArray⟩, .string ⟨a_p.toArray⟩, .int .i64 a_n, .bool a_v0, .string ⟨a_l0.toArray⟩, .bool a_v1, .string ⟨a_l1.toArray⟩, .bool a_v2, .string ⟨a_l2.toArray⟩, .bool a_v3, .string ⟨a_l3.toArray⟩] := hH5.at
              refine hx_make (i := 5) (oi := _) (.slice va U.length vc) (w2.alloc (.cells #[.string ⟨a_s.toArray⟩, .string ⟨a_p.toArray⟩, .int .i64 a_n, .bool a_v0, .string ⟨a_l0.toArray⟩, .bool a_v1, .string ⟨a_l1.toArray⟩, .bool a_v2, .string ⟨a_l2.toArray⟩, .bool a_v3, .string ⟨a_l3.toArray⟩, .slice ua l.length uc] 47)) rfl rfl (by kernel_rfl) (by kernel_rfl) (ld_one rfl (by kernel_rfl) (by kernel_rfl) _ (hX5.prs.par.cel.cell 8)) hT5 ?_
              refine hx_append (i := 11) (oi := _) (.tmp 26) (.tmp 31) 26 w0.heap.size 47 i5 (.agg #[.string ByteArray.empty, .string ByteArray.empty, .int .i64 0, .bool false, .string ByteArray.empty, .bool false, .string ByteArray.empty, .bool false, .string ByteArray.empty, .bool false, .string ByteArray.empty, .slice none 0 0]) 12 160 (.slice va U.length vc) U.length _ _ (some ⟨w2.heap.size, 0, none⟩) 1 1 (#[.string ⟨a_s.toArray⟩, .string ⟨a_p.toArray⟩, .int .i64 a_n, .bool a_v0, .string ⟨a_l0.toArray⟩, .bool a_v1, .string ⟨a_l1.toArray⟩, .bool a_v2, .string ⟨a_l2.toArray⟩, .bool a_v3, .string ⟨a_l3.toArray⟩, .slice ua l.length uc] : Array Value).toList rfl rfl (by kernel_rfl) (by kernel_rfl) rfl Tryz.underlying26 I5.out.1 I5.out.2.1 I5.out.2.2.1 I5.out.2.2.2 rfl (by decide) (by kernel_rfl) hX5.own.ru.row (by kernel_rfl) hRD (by simp [Value.oneCell']) (by have := HLL.out; unfold maxLen; omega) (by have := HLL.out; omega) hDD ?_
              intro v6 w6 hown6 hg6 hat6
              obtain ⟨a6, c6', rfl⟩ := own_slice hown6
              have hC6 := (prs_grow hX5.prs hX5.own.ru.row hg6 (by decide) (by decide)).par.cel
              have hf := Lib.hid (push_ru (x := (((a_s, a_p, a_n, (a_v0, a_l0), (a_v1, a_l1), (a_v2, a_l2), (a_v3, a_l3)) : Atm), l)) hX5 HX.out hU5 hown6 hg6 hat6 hm)
              have hH6 := cel_own hH5 hX5.own.ru.row (by decide) hg6
              have hT6 : At w6 hb 0 #[.string ⟨a_s.toArray⟩, .string ⟨a_p.toArray⟩, .int .i64 a_n, .bool a_v0, .string ⟨a_l0.toArray⟩, .bool a_v1, .string ⟨a_l1.toArray⟩, .bool a_v2, .string ⟨a_l2.toArray⟩, .bool a_v3, .string ⟨a_l3.toArray⟩] := hH6.at
              refine ⟨hT6, ?_⟩
              refine hx_take (i := 12) (oi := _) (v := .pointer (some ⟨g, 0, none⟩)) rfl rfl hns (by kernel_rfl) (by kernel_rfl) hQ (by kernel_rfl) (fun _ _ => (by kernel_rfl)) hT6 ?_
              refine hx_take (i := 13) (oi := _) (v := .pointer (some ⟨g, 3, none⟩)) rfl rfl hns (by kernel_rfl) (by kernel_rfl) hQ (by kernel_rfl) (fun _ _ => (by kernel_rfl)) hT6 ?_
              refine hx_take (i := 14) (oi := _) (v := .pointer (some ⟨g, 8, none⟩)) rfl rfl hns (by kernel_rfl) (by kernel_rfl) hQ (by kernel_rfl) (fun _ _ => (by kernel_rfl)) hT6 ?_
              have hT7 : At (w6.setCell ⟨g, 8, none⟩ (.slice a6 (U.length + 1) c6')) hb 0 #[.string ⟨a_s.toArray⟩, .string ⟨a_p.toArray⟩, .int .i64 a_n, .bool a_v0, .string ⟨a_l0.toArray⟩, .bool a_v1, .string ⟨a_l1.toArray⟩, .bool a_v2, .string ⟨a_l2.toArray⟩, .bool a_v3, .string ⟨a_l3.toArray⟩] := (hH6.far (p := ⟨g, 8, none⟩) HBg.out _).at
              refine hx_store (i := 15) (oi := _) (w6.setCell ⟨g, 8, none⟩ (.slice a6 (U.length + 1) c6')) rfl rfl (by kernel_rfl) (by kernel_rfl) (st_ru rfl (by kernel_rfl) (by kernel_rfl) _ hC6 rfl) hT7 ?_
              refine wpAnyH_done (by kernel_rfl) ?_ _
              clear hns hQ
              simp only [List.set_cons_zero, List.set_cons_succ]
              clear hC6 hat6 hown6 hg6 hX5 hRD hDD hT5 hT6 hT7 hT hH2 hH5 hH6 hU2 hU5 hX2 HX I5 i5 HLL
              go_wp2_with fail
              refine bodyPost_ret (results_none rfl _ _ _) rfl ?_
              exact hgood.out _ _ _ HR.out hf.out
set_option maxHeartbeats 4000000 in
set_option maxRecDepth 100000 in
theorem psays_gr {w0 : World} {g : Nat} {lv : Value} {L : List Tk} {n : Nat} {st : PSt} {c3 c4 c5 c6 c7 c8 c9 : Value} {C : List (Clr × Value)} {U : List (Rul × Value)} {G : List (Grn × Value)} {b k : Nat} {S : List Txt} (r : Toks) (w : World) (h : StX w0 w g lv L n st r c3 c4 c5 c6 c7 c8 c9 C U G b k S) (hcan : ∀ who r1 r2, nameT principalB r = .ok (who, r1) → mustT wSays r1 = .ok r2 → isT wCansay (r2.drop 1) = true) :
    Calls Tryz.prog 65 #[.pointer (some ⟨g, 0, none⟩)] w (SOut w0 g lv L n (saysT st r)) := by
  obtain ⟨R, hR⟩ : ∃ R, Hid (R = saysT st r) := ⟨_, rfl⟩
  obtain ⟨K, hK⟩ : ∃ K : Ending → World → Prop, Hid (K = SOut w0 g lv L n R) := ⟨_, rfl⟩
  have hbad : Hid (∀ k er w', R = .error (k, er) → Since w0 w' → K (.panicked [FlawE (placeK L n k) er]) w') := fun k er w' e h => by rw [hK.out, e]; exact ⟨rfl, h⟩
  have hgood : Hid (∀ st1 r1 w', R = .ok (st1, r1) → St w0 g lv L n st1 r1 w' → K (.returned (.tuple #[])) w') := fun st1 r1 w' e h => by rw [hK.out, e]; exact ⟨rfl, h⟩
  rw [← hR.out, ← hK.out]
  clear hK
  obtain ⟨i5, hi5, hz0, hz1, hz2⟩ := info_parts info_gr
  have I5 := Lib.hid (And.intro hi5 (And.intro hz0 (And.intro hz1 hz2)))
  obtain ⟨va, vc, rfl⟩ := own_slice h.own.gr.row
  have hCl : G.length = st.p.gr.length := by rw [← h.own.eG, List.length_map]
  have HX := Lib.hid h
  have HP := Lib.hid h.prs
  have HG : Hid (OnlyG g w w) := Keep.refl _ _
  have HLL : Hid (G.length ≤ 70000) := by show _ ≤ _; have := h.room.gr; omega
  have HLQ : Hid (st.p.gr.length + r.length ≤ 70000) := h.room.gr
  have HCAN := Lib.hid hcan
  have hR1 := hR.out
  rw [saysT] at hR1
  have HR := Lib.hid hR1
  clear hi5 hz0 hz1 hz2 h hR hR1 hCl hcan
  go_enter Tryz.func65, Tryz.ntmps65
  have HC := Lib.hid (pprinc_here HP.out)
  cases hc : nameT principalB r with
  | error x =>
    obtain ⟨k1, er⟩ := x
    have hH := HC.out
    rw [hc] at hH
    have HC2 : Hid (Calls Tryz.prog 83 #[.pointer (some ⟨g, 0, none⟩), .func (.func 84) #[] #[]] w fun e w' => e = .panicked [FlawE (placeK L n k1) er] ∧ OnlyG g w w') := hH
    have hR1 := HR.out
    rw [hc] at hR1
    have HR1 : Hid (R = .error (k1, er)) := hR1
    have HS : Hid (∀ w', OnlyG g w w' → Since w0 w') := fun w' hk => only_new0 HP.out hk
    clear HC hH hR1 HR hc hgood HX HLL I5 HG HCAN
    go_wp2_with fail
    refine HC2.out.mono ?_
    rintro e wz ⟨rfl, hk⟩
    go_wp2_with fail
    exact ⟨rfl, hbad.out _ _ _ HR1.out (HS.out _ hk)⟩
  | ok x =>
    obtain ⟨who, r1⟩ := x
    have hH := HC.out
    rw [hc] at hH
    have HC2 : Hid (Calls Tryz.prog 83 #[.pointer (some ⟨g, 0, none⟩), .func (.func 84) #[] #[]] w fun e w' => e = .returned (.string ⟨who.toArray⟩) ∧ Prs w0 w' g lv L n r1 c3 c4 c5 c6 c7 c8 (.slice va G.length vc) (.map (some b)) ∧ OnlyG g w w') := hH
    have hR1 := HR.out
    rw [hc] at hR1
    simp only at hR1
    replace HR := Lib.hid hR1
    have HLE9 : Hid (r1.length ≤ r.length) := by show _ ≤ _; have := congrArg List.length (nameT_ok hc).1; rw [List.length_cons] at this; omega
    have hn1 := hc
    clear HC hH hR1 hc
    go_wp2_with fail
    refine HC2.out.mono ?_
    rintro e w2 ⟨rfl, hp2, hk2⟩
    replace HP := Lib.hid hp2
    replace HG := Lib.hid (only_only HG.out hk2)
    clear HC2 hp2  
    clear hk2
    have HC := Lib.hid (pmust_here wSays HP.out (by decide))
    cases hc : mustT wSays r1 with
    | error x =>
      obtain ⟨k1, er⟩ := x
      have hH := HC.out
      rw [hc] at hH
      have HC2 : Hid (Calls Tryz.prog 66 #[.pointer (some ⟨g, 0, none⟩), .string ⟨#[115, 97, 121, 115]⟩] w2 fun e w' => e = .panicked [FlawE (placeK L n k1) er] ∧ OnlyG g w2 w') := hH
      have hR1 := HR.out
      rw [hc] at hR1
      have HR1 : Hid (R = .error (k1, er)) := hR1
      have HS : Hid (∀ w', OnlyG g w2 w' → Since w0 w') := fun w' hk => only_new0 HP.out hk
      clear HC hH hR1 HR hc hgood HX HLL I5 HG HCAN
      go_wp2_with fail
      refine HC2.out.mono ?_
      rintro e wz ⟨rfl, hk⟩
      go_wp2_with fail
      exact ⟨rfl, hbad.out _ _ _ HR1.out (HS.out _ hk)⟩
    | ok rx =>
      have hH := HC.out
      rw [hc] at hH
      have HC2 : Hid (Calls Tryz.prog 66 #[.pointer (some ⟨g, 0, none⟩), .string ⟨#[115, 97, 121, 115]⟩] w2 fun e w' => e = .returned (.tuple #[]) ∧ Prs w0 w' g lv L n rx c3 c4 c5 c6 c7 c8 (.slice va G.length vc) (.map (some b)) ∧ OnlyG g w2 w') := hH
      have hR1 := HR.out
      rw [hc] at hR1
      simp only at hR1
      replace HR := Lib.hid hR1
      have HLE0 : Hid (rx.length ≤ r.length) := by show _ ≤ _; have := HLE9.out; have := congrArg List.length (mustT_ok hc); rw [List.length_cons] at this; omega
      have hm1 := hc
      clear HC hH hR1 hc
      go_wp2_with fail
      refine HC2.out.mono ?_
      rintro e w3 ⟨rfl, hp2, hk2⟩
      replace HP := Lib.hid hp2
      replace HG := Lib.hid (only_only HG.out hk2)
      clear HC2 hp2 HLE9
      have hcan := HCAN.out who r1 rx hn1 hm1
      clear hn1 hm1 HCAN
      clear hk2
      obtain ⟨x, hxx⟩ : ∃ x, Hid (x = (rx.drop 1).headD []) := ⟨_, rfl⟩
      obtain ⟨i, hi⟩ : ∃ i, Hid (i = L.length - rx.length) := ⟨_, rfl⟩
      have h65 := HP.out.par.len
      have hwi : wrap64 ((i : Int) + 1) = ((i + 1 : Nat) : Int) := by rw [IntWalk.wrap64_in _ (by rw [hi.out]; omega)]; omega
      have HX1 : Hid (Calls Tryz.prog 64 #[.pointer (some ⟨g, 0, none⟩), .int .i64 ((i + 1 : Nat) : Int)] w3 fun e w' => e = .returned (.string ⟨x.toArray⟩) ∧ Since w3 w') := by
        obtain ⟨p, hp⟩ := HP.out.par.suf
        have hq := ptext_at (i + 1) w3 HP.out.par
        have e2 := txt_of hp 1
        rw [← hi.out] at e2
        rw [e2, ← hxx.out] at hq
        exact hq
      have c1 : w3.cell? ⟨g, 1, none⟩ = some (.int .i64 (i : Int)) := by rw [hi.out]; exact HP.out.par.cel.cell 1
      have hxc : (x == [99, 97, 110, 115, 97, 121]) = true := by
        refine beq_dec x wCansay ?_
        rw [hxx.out, ← isT_head (by decide)]
        exact hcan
      have hR1 := HR.out
      rw [hcan] at hR1
      simp only [if_true, grantT] at hR1
      replace HR := Lib.hid hR1
      clear hi hxx hcan h65 hR1
      go_wp2_with fail
      refine HX1.out.mono ?_
      rintro e w4 ⟨rfl, hb4⟩
      replace HP := Lib.hid (HP.out.next hb4)
      replace HG : Hid (OnlyG g w w4) := only_then HG.out hb4
      clear HX1 c1 hb4
      have HC := Lib.hid (pprinc_here HP.out)
      cases hc : nameT principalB rx with
      | error x =>
        obtain ⟨k1, er⟩ := x
        have hH := HC.out
        rw [hc] at hH
        have HC2 : Hid (Calls Tryz.prog 83 #[.pointer (some ⟨g, 0, none⟩), .func (.func 84) #[] #[]] w4 fun e w' => e = .panicked [FlawE (placeK L n k1) er] ∧ OnlyG g w4 w') := hH
        have hR1 := HR.out
        rw [hc] at hR1
        have HR1 : Hid (R = .error (k1, er)) := hR1
        have HS : Hid (∀ w', OnlyG g w4 w' → Since w0 w') := fun w' hk => only_new0 HP.out hk
        clear HC hH hR1 HR hc hgood HX HLL I5 HG
        go_wp2_with fail
        refine HC2.out.mono ?_
        rintro e wz ⟨rfl, hk⟩
        go_wp2_with fail
        exact ⟨rfl, hbad.out _ _ _ HR1.out (HS.out _ hk)⟩
      | ok x =>
        obtain ⟨tw, ru⟩ := x
        have hH := HC.out
        rw [hc] at hH
        have HC2 : Hid (Calls Tryz.prog 83 #[.pointer (some ⟨g, 0, none⟩), .func (.func 84) #[] #[]] w4 fun e w' => e = .returned (.string ⟨tw.toArray⟩) ∧ Prs w0 w' g lv L n ru c3 c4 c5 c6 c7 c8 (.slice va G.length vc) (.map (some b)) ∧ OnlyG g w4 w') := hH
        have hR1 := HR.out
        rw [hc] at hR1
        simp only at hR1
        replace HR := Lib.hid hR1
        have HLE1 : Hid (ru.length ≤ r.length) := by show _ ≤ _; have := HLE0.out; have := congrArg List.length (nameT_ok hc).1; rw [List.length_cons] at this; omega
        clear HC hH hR1 hc
        go_wp2_with fail
        refine HC2.out.mono ?_
        rintro e w5 ⟨rfl, hp2, hk2⟩
        replace HP := Lib.hid hp2
        replace HG := Lib.hid (only_only HG.out hk2)
        clear HC2 hp2 hk2
        have HC := Lib.hid (pmust_here wCansay HP.out (by decide))
        cases hc : mustT wCansay ru with
        | error x =>
          obtain ⟨k1, er⟩ := x
          have hH := HC.out
          rw [hc] at hH
          have HC2 : Hid (Calls Tryz.prog 66 #[.pointer (some ⟨g, 0, none⟩), .string ⟨#[99, 97, 110, 115, 97, 121]⟩] w5 fun e w' => e = .panicked [FlawE (placeK L n k1) er] ∧ OnlyG g w5 w') := hH
          have hR1 := HR.out
          rw [hc] at hR1
          have HR1 : Hid (R = .error (k1, er)) := hR1
          have HS : Hid (∀ w', OnlyG g w5 w' → Since w0 w') := fun w' hk => only_new0 HP.out hk
          clear HC hH hR1 HR hc hgood HX HLL I5 HG
          go_wp2_with fail
          refine HC2.out.mono ?_
          rintro e wz ⟨rfl, hk⟩
          go_wp2_with fail
          exact ⟨rfl, hbad.out _ _ _ HR1.out (HS.out _ hk)⟩
        | ok rv =>
          have hH := HC.out
          rw [hc] at hH
          have HC2 : Hid (Calls Tryz.prog 66 #[.pointer (some ⟨g, 0, none⟩), .string ⟨#[99, 97, 110, 115, 97, 121]⟩] w5 fun e w' => e = .returned (.tuple #[]) ∧ Prs w0 w' g lv L n rv c3 c4 c5 c6 c7 c8 (.slice va G.length vc) (.map (some b)) ∧ OnlyG g w5 w') := hH
          have hR1 := HR.out
          rw [hc] at hR1
          simp only at hR1
          replace HR := Lib.hid hR1
          have HLE2 : Hid (rv.length ≤ r.length) := by show _ ≤ _; have := HLE1.out; have := congrArg List.length (mustT_ok hc); rw [List.length_cons] at this; omega
          clear HC hH hR1 hc
          go_wp2_with fail
          refine HC2.out.mono ?_
          rintro e w6 ⟨rfl, hp2, hk2⟩
          replace HP := Lib.hid hp2
          replace HG := Lib.hid (only_only HG.out hk2)
          clear HC2 hp2 hk2
          have HC := Lib.hid (psaid_any who rv w6 HP.out)
          cases hc : saidT who rv with
          | error x =>
            obtain ⟨k1, er⟩ := x
            have hH := HC.out
            rw [hc] at hH
            have HC2 : Hid (Calls Tryz.prog 90 #[.pointer (some ⟨g, 0, none⟩), .string ⟨who.toArray⟩] w6 fun e w' => e = .panicked [FlawE (placeK L n k1) er] ∧ OnlyG g w6 w') := hH
            have hR1 := HR.out
            rw [hc] at hR1
            have HR1 : Hid (R = .error (k1, er)) := hR1
            have HS : Hid (∀ w', OnlyG g w6 w' → Since w0 w') := fun w' hk => only_new0 HP.out hk
            clear HC hH hR1 HR hc hgood HX HLL I5 HG
            go_wp2_with fail
            refine HC2.out.mono ?_
            rintro e wz ⟨rfl, hk⟩
            go_wp2_with fail
            exact ⟨rfl, hbad.out _ _ _ HR1.out (HS.out _ hk)⟩
          | ok x =>
            obtain ⟨⟨a_s, a_p, a_n, ⟨a_v0, a_l0⟩, ⟨a_v1, a_l1⟩, ⟨a_v2, a_l2⟩, ⟨a_v3, a_l3⟩⟩, ry⟩ := x
            have hH := HC.out
            rw [hc] at hH
            have HC2 : Hid (Calls Tryz.prog 90 #[.pointer (some ⟨g, 0, none⟩), .string ⟨who.toArray⟩] w6 fun e w' => e = .returned (.agg #[.string ⟨a_s.toArray⟩, .string ⟨a_p.toArray⟩, .int .i64 a_n, .bool a_v0, .string ⟨a_l0.toArray⟩, .bool a_v1, .string ⟨a_l1.toArray⟩, .bool a_v2, .string ⟨a_l2.toArray⟩, .bool a_v3, .string ⟨a_l3.toArray⟩]) ∧ Prs w0 w' g lv L n ry c3 c4 c5 c6 c7 c8 (.slice va G.length vc) (.map (some b)) ∧ OnlyG g w6 w') := hH
            have hR1 := HR.out
            rw [hc] at hR1
            simp only at hR1
            replace HR := Lib.hid hR1
            have HLX : Hid (ry.length + 1 ≤ r.length) := by show _ ≤ _; obtain ⟨p, hp, hp2⟩ := saidT_eats hc; have := HLE2.out; have := congrArg List.length hp2; rw [List.length_append] at this; have : 0 < p.length := List.length_pos_iff.2 hp; omega
            clear HC hH hR1 hc
            go_wp2_with fail
            refine HC2.out.mono ?_
            rintro e w7 ⟨rfl, hp2, hk2⟩
            replace HP := Lib.hid hp2
            replace HG := Lib.hid (only_only HG.out hk2)
            have HGL := Lib.hid HP.out.par.cel.lt
            have HSZ := Lib.hid HG.out.size
            clear HC2 hp2 hk2
            have HLE : Hid (ry.length ≤ r.length) := by show _ ≤ _; have := HLX.out; omega
            have HLR : Hid (st.p.gr.length + ry.length + 1 ≤ 70000) := by show _ ≤ _; have := HLX.out; have := HLQ.out; omega
            clear HLX HLQ
            have hS8 : Since w7 (w7.alloc (.cells #[.string ⟨a_s.toArray⟩, .string ⟨a_p.toArray⟩, .int .i64 a_n, .bool a_v0, .string ⟨a_l0.toArray⟩, .bool a_v1, .string ⟨a_l1.toArray⟩, .bool a_v2, .string ⟨a_l2.toArray⟩, .bool a_v3, .string ⟨a_l3.toArray⟩] 44)) := (Since.refl w7).alloc _
            have hHb : Cel (w7.alloc (.cells #[.string ⟨a_s.toArray⟩, .string ⟨a_p.toArray⟩, .int .i64 a_n, .bool a_v0, .string ⟨a_l0.toArray⟩, .bool a_v1, .string ⟨a_l1.toArray⟩, .bool a_v2, .string ⟨a_l2.toArray⟩, .bool a_v3, .string ⟨a_l3.toArray⟩] 44)) w7.heap.size #[.string ⟨a_s.toArray⟩, .string ⟨a_p.toArray⟩, .int .i64 a_n, .bool a_v0, .string ⟨a_l0.toArray⟩, .bool a_v1, .string ⟨a_l1.toArray⟩, .bool a_v2, .string ⟨a_l2.toArray⟩, .bool a_v3, .string ⟨a_l3.toArray⟩] 44 := heap_alloc_new w7 _
            replace HP := Lib.hid (HP.out.next hS8)
            replace HG : Hid (OnlyG g w (w7.alloc (.cells #[.string ⟨a_s.toArray⟩, .string ⟨a_p.toArray⟩, .int .i64 a_n, .bool a_v0, .string ⟨a_l0.toArray⟩, .bool a_v1, .string ⟨a_l1.toArray⟩, .bool a_v2, .string ⟨a_l2.toArray⟩, .bool a_v3, .string ⟨a_l3.toArray⟩] 44))) := only_then HG.out hS8
            have hgl2 := HGL.out
            have hsz2 := HSZ.out
            go_upto_region 8 with (fail)
            generalize (w7.alloc (.cells #[.string ⟨a_s.toArray⟩, .string ⟨a_p.toArray⟩, .int .i64 a_n, .bool a_v0, .string ⟨a_l0.toArray⟩, .bool a_v1, .string ⟨a_l1.toArray⟩, .bool a_v2, .string ⟨a_l2.toArray⟩, .bool a_v3, .string ⟨a_l3.toArray⟩] 44)) = w8 at *
            obtain ⟨hb, hhb⟩ : ∃ x, Hid (x = w7.heap.size) := ⟨_, rfl⟩
            have HBg : Hid (¬ hb = g) := by show ¬ _; rw [hhb.out]; omega
            simp only [← hhb.out]
            rw [← hhb.out] at hHb
            have HWD : Hid (w.heap.size ≤ w8.drew.heap.size) := by show _ ≤ _; exact Nat.le_trans hsz2 hS8.size
            clear hhb hgl2 hsz2 hS8 HGL HSZ
            have hpD := HP.out.next (Since.refl w8).drew
            have hGD : OnlyG g w w8.drew := only_only HG.out (Keep.of_since (Since.refl w8).drew)
            have HD := Lib.hid (HX.out.only hGD hpD HLE.out)
            have hHD := hHb.next (Since.refl w8).drew
            have hT : At w8.drew hb 0 #[.string ⟨a_s.toArray⟩, .string ⟨a_p.toArray⟩, .int .i64 a_n, .bool a_v0, .string ⟨a_l0.toArray⟩, .bool a_v1, .string ⟨a_l1.toArray⟩, .bool a_v2, .string ⟨a_l2.toArray⟩, .bool a_v3, .string ⟨a_l3.toArray⟩] := hHD.at
            have HC := Lib.hid (pbody_any ry w8.drew HD.out.prs)
            have hc0 : w8.drew.cell? ⟨g, 9, none⟩ = some (.slice va G.length vc) := HD.out.prs.par.cel.cell 9
            clear hpD hGD HG HP hHb
            cases hc : bodyT ry with
            | error x =>
              obtain ⟨k1, er⟩ := x
              have hH := HC.out
              rw [hc] at hH
              have HC2 : Hid (Calls Tryz.prog 91 #[.pointer (some ⟨g, 0, none⟩)] w8.drew fun e w' => e = .panicked [FlawE (placeK L n k1) er] ∧ OnlyG g w8.drew w') := hH
              have hR1 := HR.out
              rw [hc] at hR1
              have HR1 : Hid (R = .error (k1, er)) := hR1
              have HS : Hid (∀ w', OnlyG g w8.drew w' → Since w0 w') := fun w' hk => only_new0 HD.out.prs hk
              clear HC hH hR1 HR hc hgood HD HX HLL I5 HLE HLR
              refine hx_begin (S := fun W => At W hb 0 #[.string ⟨a_s.toArray⟩, .string ⟨a_p.toArray⟩, .int .i64 a_n, .bool a_v0, .string ⟨a_l0.toArray⟩, .bool a_v1, .string ⟨a_l1.toArray⟩, .bool a_v2, .string ⟨a_l2.toArray⟩, .bool a_v3, .string ⟨a_l3.toArray⟩]) (by kernel_rfl) hT (by kernel_rfl) (fun _ _ _ _ _ h => h) (fun hns hQ => ?_)
              refine hx_take (i := 0) (oi := _) (v := .pointer (some ⟨g, 0, none⟩)) rfl rfl hns (by kernel_rfl) (by kernel_rfl) hQ (by kernel_rfl) (fun _ _ => (by kernel_rfl)) hT ?_
              refine hx_take (i := 1) (oi := _) (v := .pointer (some ⟨g, 0, none⟩)) rfl rfl hns (by kernel_rfl) (by kernel_rfl) hQ (by kernel_rfl) (fun _ _ => (by kernel_rfl)) hT ?_
              refine hx_take (i := 2) (oi := _) (v := .pointer (some ⟨g, 0, none⟩)) rfl rfl hns (by kernel_rfl) (by kernel_rfl) hQ (by kernel_rfl) (fun _ _ => (by kernel_rfl)) hT ?_
              refine hx_take (i := 3) (oi := _) (v := .pointer (some ⟨g, 3, none⟩)) rfl rfl hns (by kernel_rfl) (by kernel_rfl) hQ (by kernel_rfl) (fun _ _ => (by kernel_rfl)) hT ?_
              refine hx_take (i := 4) (oi := _) (v := .pointer (some ⟨g, 9, none⟩)) rfl rfl hns (by kernel_rfl) (by kernel_rfl) hQ (by kernel_rfl) (fun _ _ => (by kernel_rfl)) hT ?_
              refine hx_take (i := 6) (oi := _) (v := .string ⟨tw.toArray⟩) rfl rfl hns (by kernel_rfl) (by kernel_rfl) hQ (by kernel_rfl) (fun _ _ => (by kernel_rfl)) hT ?_
              refine hx_take (i := 7) (oi := _) (v := .agg #[.string ⟨a_s.toArray⟩, .string ⟨a_p.toArray⟩, .int .i64 a_n, .bool a_v0, .string ⟨a_l0.toArray⟩, .bool a_v1, .string ⟨a_l1.toArray⟩, .bool a_v2, .string ⟨a_l2.toArray⟩, .bool a_v3, .string ⟨a_l3.toArray⟩]) rfl rfl hns (by kernel_rfl) (by kernel_rfl) hQ (by kernel_rfl) (fun W hW => ld_at rfl (by kernel_rfl) (by kernel_rfl) (by kernel_rfl) W hW) hT ?_
              refine hx_take (i := 8) (oi := _) (v := .pointer (some ⟨g, 0, none⟩)) rfl rfl hns (by kernel_rfl) (by kernel_rfl) hQ (by kernel_rfl) (fun _ _ => (by kernel_rfl)) hT ?_
              refine hx_two_vp (i := 5) (j := 9) (oi := _) (oj := _) (.slice va G.length vc) w8.drew 91 #[.pointer (some ⟨g, 0, none⟩)] [FlawE (placeK L n k1) er] rfl rfl (by kernel_rfl) (by kernel_rfl) (by kernel_rfl) rfl (ld_one rfl (by kernel_rfl) (by kernel_rfl) _ hc0) hT (by kernel_rfl) HC2.out ?_ ?_
              · refine hx_panic (i := 9) (oi := _) 91 #[.pointer (some ⟨g, 0, none⟩)] [FlawE (placeK L n k1) er] rfl (by kernel_rfl) (by kernel_rfl) (by kernel_rfl) HC2.out ?_
                intro w' hk
                exact ⟨rfl, hbad.out _ _ _ HR1.out (HS.out _ hk)⟩
              · intro w' hk
                exact ⟨rfl, hbad.out _ _ _ HR1.out (HS.out _ hk)⟩
            | ok x =>
              obtain ⟨l, rz⟩ := x
              have hH := HC.out
              rw [hc] at hH
              have HC2 : Hid (Calls Tryz.prog 91 #[.pointer (some ⟨g, 0, none⟩)] w8.drew fun e w' => ∃ v, e = .returned v ∧ w'.ownsRow w8.drew.heap.size 44 11 v l.length (l.flatMap atmL) ∧ l.length ≤ 65536 ∧ Prs w0 w' g lv L n rz c3 c4 c5 c6 c7 c8 (.slice va G.length vc) (.map (some b)) ∧ OnlyG g w8.drew w') := hH
              have hR1 := HR.out
              rw [hc] at hR1
              simp only at hR1
              replace HR := Lib.hid hR1
              have hl1 : rz.length ≤ ry.length := by obtain ⟨p, hp⟩ := bodyT_eats hc; rw [hp, List.length_append]; omega
              clear HC hH hR1 hc hbad
              refine hx_begin (S := fun W => At W hb 0 #[.string ⟨a_s.toArray⟩, .string ⟨a_p.toArray⟩, .int .i64 a_n, .bool a_v0, .string ⟨a_l0.toArray⟩, .bool a_v1, .string ⟨a_l1.toArray⟩, .bool a_v2, .string ⟨a_l2.toArray⟩, .bool a_v3, .string ⟨a_l3.toArray⟩]) (by kernel_rfl) hT (by kernel_rfl) (fun _ _ _ _ _ h => h) (fun hns hQ => ?_)
              refine hx_take (i := 0) (oi := _) (v := .pointer (some ⟨g, 0, none⟩)) rfl rfl hns (by kernel_rfl) (by kernel_rfl) hQ (by kernel_rfl) (fun _ _ => (by kernel_rfl)) hT ?_
              refine hx_take (i := 1) (oi := _) (v := .pointer (some ⟨g, 0, none⟩)) rfl rfl hns (by kernel_rfl) (by kernel_rfl) hQ (by kernel_rfl) (fun _ _ => (by kernel_rfl)) hT ?_
              refine hx_take (i := 2) (oi := _) (v := .pointer (some ⟨g, 0, none⟩)) rfl rfl hns (by kernel_rfl) (by kernel_rfl) hQ (by kernel_rfl) (fun _ _ => (by kernel_rfl)) hT ?_
              refine hx_take (i := 3) (oi := _) (v := .pointer (some ⟨g, 3, none⟩)) rfl rfl hns (by kernel_rfl) (by kernel_rfl) hQ (by kernel_rfl) (fun _ _ => (by kernel_rfl)) hT ?_
              refine hx_take (i := 4) (oi := _) (v := .pointer (some ⟨g, 9, none⟩)) rfl rfl hns (by kernel_rfl) (by kernel_rfl) hQ (by kernel_rfl) (fun _ _ => (by kernel_rfl)) hT ?_
              refine hx_take (i := 6) (oi := _) (v := .string ⟨tw.toArray⟩) rfl rfl hns (by kernel_rfl) (by kernel_rfl) hQ (by kernel_rfl) (fun _ _ => (by kernel_rfl)) hT ?_
              refine hx_take (i := 7) (oi := _) (v := .agg #[.string ⟨a_s.toArray⟩, .string ⟨a_p.toArray⟩, .int .i64 a_n, .bool a_v0, .string ⟨a_l0.toArray⟩, .bool a_v1, .string ⟨a_l1.toArray⟩, .bool a_v2, .string ⟨a_l2.toArray⟩, .bool a_v3, .string ⟨a_l3.toArray⟩]) rfl rfl hns (by kernel_rfl) (by kernel_rfl) hQ (by kernel_rfl) (fun W hW => ld_at rfl (by kernel_rfl) (by kernel_rfl) (by kernel_rfl) W hW) hT ?_
              refine hx_take (i := 8) (oi := _) (v := .pointer (some ⟨g, 0, none⟩)) rfl rfl hns (by kernel_rfl) (by kernel_rfl) hQ (by kernel_rfl) (fun _ _ => (by kernel_rfl)) hT ?_
              refine hx_two_vc (i := 5) (j := 9) (oi := _) (oj := _) (.slice va G.length vc) w8.drew 91 #[.pointer (some ⟨g, 0, none⟩)] rfl rfl (by kernel_rfl) (by kernel_rfl) (by kernel_rfl) rfl (ld_one rfl (by kernel_rfl) (by kernel_rfl) _ hc0) hT rfl (by kernel_rfl) HC2.out ?_ ?_
              · refine hx_call (i := 9) (oi := _) 91 #[.pointer (some ⟨g, 0, none⟩)] rfl rfl (by kernel_rfl) (by kernel_rfl) (by kernel_rfl) HC2.out ?_
                rintro e w2 ⟨v, rfl, hU, -, hp2, hk2⟩
                obtain ⟨ua, uc, rfl⟩ := own_slice hU
                have hX2 := HD.out.only hk2 hp2 hl1
                have hH2 := hk2.cel hHD HBg.out
                have hU2 := own_base hU HWD.out
                have hm : st.p.gr.length + 1 + rz.length ≤ 70000 := by have := HLR.out; have := hl1; omega
                have hT2 : At w2 hb 0 #[.string ⟨a_s.toArray⟩, .string ⟨a_p.toArray⟩, .int .i64 a_n, .bool a_v0, .string ⟨a_l0.toArray⟩, .bool a_v1, .string ⟨a_l1.toArray⟩, .bool a_v2, .string ⟨a_l2.toArray⟩, .bool a_v3, .string ⟨a_l3.toArray⟩] := hH2.at
                refine ⟨_, rfl, hT2, ?_⟩
                refine hx_take (i := 10) (oi := _) (v := .agg #[.string ⟨tw.toArray⟩, .string ⟨a_s.toArray⟩, .string ⟨a_p.toArray⟩, .int .i64 a_n, .bool a_v0, .string ⟨a_l0.toArray⟩, .bool a_v1, .string ⟨a_l1.toArray⟩, .bool a_v2, .string ⟨a_l2.toArray⟩, .bool a_v3, .string ⟨a_l3.toArray⟩, .slice ua l.length uc]) rfl rfl hns (by kernel_rfl) (by kernel_rfl) hQ (by kernel_rfl) (fun _ _ => (by kernel_rfl)) hT2 ?_
                have hS5 : Since w2 (w2.alloc (.cells #[.string ⟨tw.toArray⟩, .string ⟨a_s.toArray⟩, .string ⟨a_p.toArray⟩, .int .i64 a_n, .bool a_v0, .string ⟨a_l0.toArray⟩, .bool a_v1, .string ⟨a_l1.toArray⟩, .bool a_v2, .string ⟨a_l2.toArray⟩, .bool a_v3, .string ⟨a_l3.toArray⟩, .slice ua l.length uc] 49)) := (Since.refl w2).alloc _
                have hX5 := hX2.next hS5
                have hH5 := hH2.next hS5
                have hU5 := own_since hU2 hS5
                have hRD := reads_celR (heap_alloc_new w2 (.cells #[.string ⟨tw.toArray⟩, .string ⟨a_s.toArray⟩, .string ⟨a_p.toArray⟩, .int .i64 a_n, .bool a_v0, .string ⟨a_l0.toArray⟩, .bool a_v1, .string ⟨a_l1.toArray⟩, .bool a_v2, .string ⟨a_l2.toArray⟩, .bool a_v3, .string ⟨a_l3.toArray⟩, .slice ua l.length uc] 49)) (K := 13) rfl
                have hDD : w0.heap.size ≤ (w2.alloc (.cells #[.string ⟨tw.toArray⟩, .string ⟨a_s.toArray⟩, .string ⟨a_p.toArray⟩, .int .i64 a_n, .bool a_v0, .string ⟨a_l0.toArray⟩, .bool a_v1, .string ⟨a_l1.toArray⟩, .bool a_v2, .string ⟨a_l2.toArray⟩, .bool a_v3, .string ⟨a_l3.toArray⟩, .slice ua l.length uc] 49)).heap.size := hX5.prs.sin.size
                have hT5 : At (w2.alloc (.cells #[.string ⟨tw.toArray⟩, .string ⟨a_s.toArray⟩, .string ⟨a_p.toArray⟩, .int .i64 a_n, .bool a_v0, .string ⟨a_l0.toArray⟩, .bool a_v1, .string ⟨a_l1.toArray⟩, .bool a_v2, .string ⟨a_l2.toArray⟩, .bool a_v3, .string ⟨a_l3.toArray⟩, .slice ua l.length uc] 49)) hb 0 #[.string ⟨a_s.toArray⟩, .string ⟨a_p.toArray⟩, .int .i64 a_n, .bool a_v0, .string ⟨a_l0.toArray⟩, .bool a_v1, .string ⟨a_l1.toArray⟩, .bool a_v2, .string ⟨a_l2.toArray⟩, .bool a_v3, .string ⟨a_l3.toArray⟩] := hH5.at
                refine hx_make (i := 11) (oi := _) (.slice (some ⟨w2.heap.size, 0, none⟩) 1 1) (w2.alloc (.cells #[.string ⟨tw.toArray⟩, .string ⟨a_s.toArray⟩, .string ⟨a_p.toArray⟩, .int .i64 a_n, .bool a_v0, .string ⟨a_l0.toArray⟩, .bool a_v1, .string ⟨a_l1.toArray⟩, .bool a_v2, .string ⟨a_l2.toArray⟩, .bool a_v3, .string ⟨a_l3.toArray⟩, .slice ua l.length uc] 49)) rfl rfl (by kernel_rfl) (by kernel_rfl) (by kernel_rfl) hT5 ?_
                refine hx_append (i := 12) (oi := _) (.tmp 48) (.tmp 54) 27 w0.heap.size 49 i5 (.agg #[.string ByteArray.empty, .string ByteArray.empty, .string ByteArray.empty, .int .i64 0, .bool false, .string ByteArray.empty, .bool false, .string ByteArray.empty, .bool false, .string ByteArray.empty, .bool false, .string ByteArray.empty, .slice none 0 0]) 13 176 (.slice va G.length vc) G.length _ _ (some ⟨w2.heap.size, 0, none⟩) 1 1 (#[.string ⟨tw.toArray⟩, .string ⟨a_s.toArray⟩, .string ⟨a_p.toArray⟩, .int .i64 a_n, .bool a_v0, .string ⟨a_l0.toArray⟩, .bool a_v1, .string ⟨a_l1.toArray⟩, .bool a_v2, .string ⟨a_l2.toArray⟩, .bool a_v3, .string ⟨a_l3.toArray⟩, .slice ua l.length uc] : Array Value).toList rfl rfl (by kernel_rfl) (by kernel_rfl) rfl Tryz.underlying27 I5.out.1 I5.out.2.1 I5.out.2.2.1 I5.out.2.2.2 rfl (by decide) (by kernel_rfl) hX5.own.gr.row (by kernel_rfl) hRD (by simp [Value.oneCell']) (by have := HLL.out; unfold maxLen; omega) (by have := HLL.out; omega) hDD ?_
                intro v6 w6 hown6 hg6 hat6
                obtain ⟨a6, c6', rfl⟩ := own_slice hown6
                have hC6 := (prs_grow hX5.prs hX5.own.gr.row hg6 (by decide) (by decide)).par.cel
                have hf := Lib.hid (push_gr (x := (tw, ((a_s, a_p, a_n, (a_v0, a_l0), (a_v1, a_l1), (a_v2, a_l2), (a_v3, a_l3)) : Atm), l)) hX5 HX.out hU5 hown6 hg6 hat6 hm)
                have hH6 := cel_own hH5 hX5.own.gr.row (by decide) hg6
                have hT6 : At w6 hb 0 #[.string ⟨a_s.toArray⟩, .string ⟨a_p.toArray⟩, .int .i64 a_n, .bool a_v0, .string ⟨a_l0.toArray⟩, .bool a_v1, .string ⟨a_l1.toArray⟩, .bool a_v2, .string ⟨a_l2.toArray⟩, .bool a_v3, .string ⟨a_l3.toArray⟩] := hH6.at
                refine ⟨hT6, ?_⟩
                refine hx_take (i := 13) (oi := _) (v := .pointer (some ⟨g, 0, none⟩)) rfl rfl hns (by kernel_rfl) (by kernel_rfl) hQ (by kernel_rfl) (fun _ _ => (by kernel_rfl)) hT6 ?_
                refine hx_take (i := 14) (oi := _) (v := .pointer (some ⟨g, 3, none⟩)) rfl rfl hns (by kernel_rfl) (by kernel_rfl) hQ (by kernel_rfl) (fun _ _ => (by kernel_rfl)) hT6 ?_
                refine hx_take (i := 15) (oi := _) (v := .pointer (some ⟨g, 9, none⟩)) rfl rfl hns (by kernel_rfl) (by kernel_rfl) hQ (by kernel_rfl) (fun _ _ => (by kernel_rfl)) hT6 ?_
                have hT7 : At (w6.setCell ⟨g, 9, none⟩ (.slice a6 (G.length + 1) c6')) hb 0 #[.string ⟨a_s.toArray⟩, .string ⟨a_p.toArray⟩, .int .i64 a_n, .bool a_v0, .string ⟨a_l0.toArray⟩, .bool a_v1, .string ⟨a_l1.toArray⟩, .bool a_v2, .string ⟨a_l2.toArray⟩, .bool a_v3, .string ⟨a_l3.toArray⟩] := (hH6.far (p := ⟨g, 9, none⟩) HBg.out _).at
                refine hx_store (i := 16) (oi := _) (w6.setCell ⟨g, 9, none⟩ (.slice a6 (G.length + 1) c6')) rfl rfl (by kernel_rfl) (by kernel_rfl) (st_gr rfl (by kernel_rfl) (by kernel_rfl) _ hC6 rfl) hT7 ?_
                refine wpAnyH_done (by kernel_rfl) ?_ _
                clear hns hQ
                simp only [List.set_cons_zero, List.set_cons_succ]
                clear hC6 hat6 hown6 hg6 hX5 hRD hDD hT5 hT6 hT7 hT hH2 hH5 hH6 hU2 hU5 hX2 HX I5 i5 HLL
                go_wp2_with fail
                go_end0
                exact hgood.out _ _ _ HR.out hf.out
              · rintro e w2 ⟨v, rfl, hU, -, hp2, hk2⟩
                obtain ⟨ua, uc, rfl⟩ := own_slice hU
                have hX2 := HD.out.only hk2 hp2 hl1
                have hH2 := hk2.cel hHD HBg.out
                have hU2 := own_base hU HWD.out
                have hm : st.p.gr.length + 1 + rz.length ≤ 70000 := by have := HLR.out; have := hl1; omega
                have hT2 : At w2 hb 0 #[.string ⟨a_s.toArray⟩, .string ⟨a_p.toArray⟩, .int .i64 a_n, .bool a_v0, .string ⟨a_l0.toArray⟩, .bool a_v1, .string ⟨a_l1.toArray⟩, .bool a_v2, .string ⟨a_l2.toArray⟩, .bool a_v3, .string ⟨a_l3.toArray⟩] := hH2.at
                refine ⟨_, rfl, hT2, ?_⟩
                refine hx_take (i := 10) (oi := _) (v := .agg #[.string ⟨tw.toArray⟩, .string ⟨a_s.toArray⟩, .string ⟨a_p.toArray⟩, .int .i64 a_n, .bool a_v0, .string ⟨a_l0.toArray⟩, .bool a_v1, .string ⟨a_l1.toArray⟩, .bool a_v2, .string ⟨a_l2.toArray⟩, .bool a_v3, .string ⟨a_l3.toArray⟩, .slice ua l.length uc]) rfl rfl hns (by kernel_rfl) (by kernel_rfl) hQ (by kernel_rfl) (fun _ _ => (by kernel_rfl)) hT2 ?_
                refine hx_two_vv (i := 5) (j := 11) (oi := _) (oj := _) (.slice va G.length vc) w2 (.slice (some ⟨w2.heap.size, 0, none⟩) 1 1) (w2.alloc (.cells #[.string ⟨tw.toArray⟩, .string ⟨a_s.toArray⟩, .string ⟨a_p.toArray⟩, .int .i64 a_n, .bool a_v0, .string ⟨a_l0.toArray⟩, .bool a_v1, .string ⟨a_l1.toArray⟩, .bool a_v2, .string ⟨a_l2.toArray⟩, .bool a_v3, .string ⟨a_l3.toArray⟩, .slice ua l.length uc] 49)) rfl rfl (by kernel_rfl) (by kernel_rfl) (by kernel_rfl) rfl (ld_one rfl (by kernel_rfl) (by kernel_rfl) _ (hX2.prs.par.cel.cell 9)) hT2 rfl (by kernel_rfl) (hT2.next ((Since.refl _).alloc _)) ?_ ?_
                · skip
                  have hS5 : Since w2 (w2.alloc (.cells #[.string ⟨tw.toArray⟩, .string ⟨a_s.toArray⟩, .string ⟨a_p.toArray⟩, .int .i64 a_n, .bool a_v0, .string ⟨a_l0.toArray⟩, .bool a_v1, .string ⟨a_l1.toArray⟩, .bool a_v2, .string ⟨a_l2.toArray⟩, .bool a_v3, .string ⟨a_l3.toArray⟩, .slice ua l.length uc] 49)) := (Since.refl w2).alloc _
                  have hX5 := hX2.next hS5
                  have hH5 := hH2.next hS5
                  have hU5 := own_since hU2 hS5
                  have hRD := reads_celR (heap_alloc_new w2 (.cells #[.string ⟨tw.toArray⟩, .string ⟨a_s.toArray⟩, .string ⟨a_p.toArray⟩, .int .i64 a_n, .bool a_v0, .string ⟨a_l0.toArray⟩, .bool a_v1, .string ⟨a_l1.toArray⟩, .bool a_v2, .string ⟨a_l2.toArray⟩, .bool a_v3, .string ⟨a_l3.toArray⟩, .slice ua l.length uc] 49)) (K := 13) rfl
                  have hDD : w0.heap.size ≤ (w2.alloc (.cells #[.string ⟨tw.toArray⟩, .string ⟨a_s.toArray⟩, .string ⟨a_p.toArray⟩, .int .i64 a_n, .bool a_v0, .string ⟨a_l0.toArray⟩, .bool a_v1, .string ⟨a_l1.toArray⟩, .bool a_v2, .string ⟨a_l2.toArray⟩, .bool a_v3, .string ⟨a_l3.toArray⟩, .slice ua l.length uc] 49)).heap.size := hX5.prs.sin.size
                  have hT5 : At (w2.alloc (.cells #[.string ⟨tw.toArray⟩, .string ⟨a_s.toArray⟩, .string ⟨a_p.toArray⟩, .int .i64 a_n, .bool a_v0, .string ⟨a_l0.toArray⟩, .bool a_v1, .string ⟨a_l1.toArray⟩, .bool a_v2, .string ⟨a_l2.toArray⟩, .bool a_v3, .string ⟨a_l3.toArray⟩, .slice ua l.length uc] 49)) hb 0 #[.string ⟨a_s.toArray⟩, .string ⟨a_p.toArray⟩, .int .i64 a_n, .bool a_v0, .string ⟨a_l0.toArray⟩, .bool a_v1, .string ⟨a_l1.toArray⟩, .bool a_v2, .string ⟨a_l2.toArray⟩, .bool a_v3, .string ⟨a_l3.toArray⟩] := hH5.at
                  refine hx_make (i := 11) (oi := _) (.slice (some ⟨w2.heap.size, 0, none⟩) 1 1) (w2.alloc (.cells #[.string ⟨tw.toArray⟩, .string ⟨a_s.toArray⟩, .string ⟨a_p.toArray⟩, .int .i64 a_n, .bool a_v0, .string ⟨a_l0.toArray⟩, .bool a_v1, .string ⟨a_l1.toArray⟩, .bool a_v2, .string ⟨a_l2.toArray⟩, .bool a_v3, .string ⟨a_l3.toArray⟩, .slice ua l.length uc] 49)) rfl rfl (by kernel_rfl) (by kernel_rfl) (by kernel_rfl) hT5 ?_
                  refine hx_append (i := 12) (oi := _) (.tmp 48) (.tmp 54) 27 w0.heap.size 49 i5 (.agg #[.string ByteArray.empty, .string ByteArray.empty, .string ByteArray.empty, .int .i64 0, .bool false, .string ByteArray.empty, .bool false, .string ByteArray.empty, .bool false, .string ByteArray.empty, .bool false, .string ByteArray.empty, .slice none 0 0]) 13 176 (.slice va G.length vc) G.length _ _ (some ⟨w2.heap.size, 0, none⟩) 1 1 (#[.string ⟨tw.toArray⟩, .string ⟨a_s.toArray⟩, .string ⟨a_p.toArray⟩, .int .i64 a_n, .bool a_v0, .string ⟨a_l0.toArray⟩, .bool a_v1, .string ⟨a_l1.toArray⟩, .bool a_v2, .string ⟨a_l2.toArray⟩, .bool a_v3, .string ⟨a_l3.toArray⟩, .slice ua l.length uc] : Array Value).toList rfl rfl (by kernel_rfl) (by kernel_rfl) rfl Tryz.underlying27 I5.out.1 I5.out.2.1 I5.out.2.2.1 I5.out.2.2.2 rfl (by decide) (by kernel_rfl) hX5.own.gr.row (by kernel_rfl) hRD (by simp [Value.oneCell']) (by have := HLL.out; unfold maxLen; omega) (by have := HLL.out; omega) hDD ?_
                  intro v6 w6 hown6 hg6 hat6
                  obtain ⟨a6, c6', rfl⟩ := own_slice hown6
                  have hC6 := (prs_grow hX5.prs hX5.own.gr.row hg6 (by decide) (by decide)).par.cel
                  have hf := Lib.hid (push_gr (x := (tw, ((a_s, a_p, a_n, (a_v0, a_l0), (a_v1, a_l1), (a_v2, a_l2), (a_v3, a_l3)) : Atm), l)) hX5 HX.out hU5 hown6 hg6 hat6 hm)
                  have hH6 := cel_own hH5 hX5.own.gr.row (by decide) hg6
                  have hT6 : At w6 hb 0 #[.string ⟨a_s.toArray⟩, .string ⟨a_p.toArray⟩, .int .i64 a_n, .bool a_v0, .string ⟨a_l0.toArray⟩, .bool a_v1, .string ⟨a_l1.toArray⟩, .bool a_v2, .string ⟨a_l2.toArray⟩, .bool a_v3, .string ⟨a_l3.toArray⟩] := hH6.at
                  refine ⟨hT6, ?_⟩
                  refine hx_take (i := 13) (oi := _) (v := .pointer (some ⟨g, 0, none⟩)) rfl rfl hns (by kernel_rfl) (by kernel_rfl) hQ (by kernel_rfl) (fun _ _ => (by kernel_rfl)) hT6 ?_
                  refine hx_take (i := 14) (oi := _) (v := .pointer (some ⟨g, 3, none⟩)) rfl rfl hns (by kernel_rfl) (by kernel_rfl) hQ (by kernel_rfl) (fun _ _ => (by kernel_rfl)) hT6 ?_
                  refine hx_take (i := 15) (oi := _) (v := .pointer (some ⟨g, 9, none⟩)) rfl rfl hns (by kernel_rfl) (by kernel_rfl) hQ (by kernel_rfl) (fun _ _ => (by kernel_rfl)) hT6 ?_
                  have hT7 : At (w6.setCell ⟨g, 9, none⟩ (.slice a6 (G.length + 1) c6')) hb 0 #[.string ⟨a_s.toArray⟩, .string ⟨a_p.toArray⟩, .int .i64 a_n, .bool a_v0, .string ⟨a_l0.toArray⟩, .bool a_v1, .string ⟨a_l1.toArray⟩, .bool a_v2, .string ⟨a_l2.toArray⟩, .bool a_v3, .string ⟨a_l3.toArray⟩] := (hH6.far (p := ⟨g, 9, none⟩) HBg.out _).at
                  refine hx_store (i := 16) (oi := _) (w6.setCell ⟨g, 9, none⟩ (.slice a6 (G.length + 1) c6')) rfl rfl (by kernel_rfl) (by kernel_rfl) (st_gr rfl (by kernel_rfl) (by kernel_rfl) _ hC6 rfl) hT7 ?_
                  refine wpAnyH_done (by kernel_rfl) ?_ _
                  clear hns hQ
                  simp only [List.set_cons_zero, List.set_cons_succ]
                  clear hC6 hat6 hown6 hg6 hX5 hRD hDD hT5 hT6 hT7 hT hH2 hH5 hH6 hU2 hU5 hX2 HX I5 i5 HLL
                  go_wp2_with fail
                  go_end0
                  exact hgood.out _ _ _ HR.out hf.out
                · skip
                  have hS5 : Since w2 (w2.alloc (.cells #[.string ⟨tw.toArray⟩, .string ⟨a_s.toArray⟩, .string ⟨a_p.toArray⟩, .int .i64 a_n, .bool a_v0, .string ⟨a_l0.toArray⟩, .bool a_v1, .string ⟨a_l1.toArray⟩, .bool a_v2, .string ⟨a_l2.toArray⟩, .bool a_v3, .string ⟨a_l3.toArray⟩, .slice ua l.length uc] 49)) := (Since.refl w2).alloc _
                  have hX5 := hX2.next hS5
                  have hH5 := hH2.next hS5
                  have hU5 := own_since hU2 hS5
                  have hRD := reads_celR (heap_alloc_new w2 (.cells #[.string ⟨tw.toArray⟩, .string ⟨a_s.toArray⟩, .string ⟨a_p.toArray⟩, .int .i64 a_n, .bool a_v0, .string ⟨a_l0.toArray⟩, .bool a_v1, .string ⟨a_l1.toArray⟩, .bool a_v2, .string ⟨a_l2.toArray⟩, .bool a_v3, .string ⟨a_l3.toArray⟩, .slice ua l.length uc] 49)) (K := 13) rfl
                  have hDD : w0.heap.size ≤ (w2.alloc (.cells #[.string ⟨tw.toArray⟩, .string ⟨a_s.toArray⟩, .string ⟨a_p.toArray⟩, .int .i64 a_n, .bool a_v0, .string ⟨a_l0.toArray⟩, .bool a_v1, .string ⟨a_l1.toArray⟩, .bool a_v2, .string ⟨a_l2.toArray⟩, .bool a_v3, .string ⟨a_l3.toArray⟩, .slice ua l.length uc] 49)).heap.size := hX5.prs.sin.size
                  have hT5 : At (w2.alloc (.cells #[.string ⟨tw.toArray⟩, .string ⟨a_s.toArray⟩, .string ⟨a_p.toArray⟩, .int .i64 a_n, .bool a_v0, .string ⟨a_l0.toArray⟩, .bool a_v1, .string ⟨a_l1.toArray⟩, .bool a_v2, .string ⟨a_l2.toArray⟩, .bool a_v3, .string ⟨a_l3.toArray⟩, .slice ua l.length uc] 49)) hb 0 #[.string ⟨a_s.toArray⟩, .string ⟨a_p.toArray⟩, .int .i64 a_n, .bool a_v0, .string ⟨a_l0.toArray⟩, .bool a_v1, .string ⟨a_l1.toArray⟩, .bool a_v2, .string ⟨a_l2.toArray⟩, .bool a_v3, .string ⟨a_l3.toArray⟩] := hH5.at
                  refine hx_make (i := 5) (oi := _) (.slice va G.length vc) (w2.alloc (.cells #[.string ⟨tw.toArray⟩, .string ⟨a_s.toArray⟩, .string ⟨a_p.toArray⟩, .int .i64 a_n, .bool a_v0, .string ⟨a_l0.toArray⟩, .bool a_v1, .string ⟨a_l1.toArray⟩, .bool a_v2, .string ⟨a_l2.toArray⟩, .bool a_v3, .string ⟨a_l3.toArray⟩, .slice ua l.length uc] 49)) rfl rfl (by kernel_rfl) (by kernel_rfl) (ld_one rfl (by kernel_rfl) (by kernel_rfl) _ (hX5.prs.par.cel.cell 9)) hT5 ?_
                  refine hx_append (i := 12) (oi := _) (.tmp 48) (.tmp 54) 27 w0.heap.size 49 i5 (.agg #[.string ByteArray.empty, .string ByteArray.empty, .string ByteArray.empty, .int .i64 0, .bool false, .string ByteArray.empty, .bool false, .string ByteArray.empty, .bool false, .string ByteArray.empty, .bool false, .string ByteArray.empty, .slice none 0 0]) 13 176 (.slice va G.length vc) G.length _ _ (some ⟨w2.heap.size, 0, none⟩) 1 1 (#[.string ⟨tw.toArray⟩, .string ⟨a_s.toArray⟩, .string ⟨a_p.toArray⟩, .int .i64 a_n, .bool a_v0, .string ⟨a_l0.toArray⟩, .bool a_v1, .string ⟨a_l1.toArray⟩, .bool a_v2, .string ⟨a_l2.toArray⟩, .bool a_v3, .string ⟨a_l3.toArray⟩, .slice ua l.length uc] : Array Value).toList rfl rfl (by kernel_rfl) (by kernel_rfl) rfl Tryz.underlying27 I5.out.1 I5.out.2.1 I5.out.2.2.1 I5.out.2.2.2 rfl (by decide) (by kernel_rfl) hX5.own.gr.row (by kernel_rfl) hRD (by simp [Value.oneCell']) (by have := HLL.out; unfold maxLen; omega) (by have := HLL.out; omega) hDD ?_
                  intro v6 w6 hown6 hg6 hat6
                  obtain ⟨a6, c6', rfl⟩ := own_slice hown6
                  have hC6 := (prs_grow hX5.prs hX5.own.gr.row hg6 (by decide) (by decide)).par.cel
                  have hf := Lib.hid (push_gr (x := (tw, ((a_s, a_p, a_n, (a_v0, a_l0), (a_v1, a_l1), (a_v2, a_l2), (a_v3, a_l3)) : Atm), l)) hX5 HX.out hU5 hown6 hg6 hat6 hm)
                  have hH6 := cel_own hH5 hX5.own.gr.row (by decide) hg6
                  have hT6 : At w6 hb 0 #[.string ⟨a_s.toArray⟩, .string ⟨a_p.toArray⟩, .int .i64 a_n, .bool a_v0, .string ⟨a_l0.toArray⟩, .bool a_v1, .string ⟨a_l1.toArray⟩, .bool a_v2, .string ⟨a_l2.toArray⟩, .bool a_v3, .string ⟨a_l3.toArray⟩] := hH6.at
                  refine ⟨hT6, ?_⟩
                  refine hx_take (i := 13) (oi := _) (v := .pointer (some ⟨g, 0, none⟩)) rfl rfl hns (by kernel_rfl) (by kernel_rfl) hQ (by kernel_rfl) (fun _ _ => (by kernel_rfl)) hT6 ?_
                  refine hx_take (i := 14) (oi := _) (v := .pointer (some ⟨g, 3, none⟩)) rfl rfl hns (by kernel_rfl) (by kernel_rfl) hQ (by kernel_rfl) (fun _ _ => (by kernel_rfl)) hT6 ?_
                  refine hx_take (i := 15) (oi := _) (v := .pointer (some ⟨g, 9, none⟩)) rfl rfl hns (by kernel_rfl) (by kernel_rfl) hQ (by kernel_rfl) (fun _ _ => (by kernel_rfl)) hT6 ?_
                  have hT7 : At (w6.setCell ⟨g, 9, none⟩ (.slice a6 (G.length + 1) c6')) hb 0 #[.string ⟨a_s.toArray⟩, .string ⟨a_p.toArray⟩, .int .i64 a_n, .bool a_v0, .string ⟨a_l0.toArray⟩, .bool a_v1, .string ⟨a_l1.toArray⟩, .bool a_v2, .string ⟨a_l2.toArray⟩, .bool a_v3, .string ⟨a_l3.toArray⟩] := (hH6.far (p := ⟨g, 9, none⟩) HBg.out _).at
                  refine hx_store (i := 16) (oi := _) (w6.setCell ⟨g, 9, none⟩ (.slice a6 (G.length + 1) c6')) rfl rfl (by kernel_rfl) (by kernel_rfl) (st_gr rfl (by kernel_rfl) (by kernel_rfl) _ hC6 rfl) hT7 ?_
                  refine wpAnyH_done (by kernel_rfl) ?_ _
                  clear hns hQ
                  simp only [List.set_cons_zero, List.set_cons_succ]
                  clear hC6 hat6 hown6 hg6 hX5 hRD hDD hT5 hT6 hT7 hT hH2 hH5 hH6 hU2 hU5 hX2 HX I5 i5 HLL
                  go_wp2_with fail
                  go_end0
                  exact hgood.out _ _ _ HR.out hf.out
theorem psays_any {w0 : World} {g : Nat} {lv : Value} {L : List Tk} {n : Nat} {st : PSt} {c3 c4 c5 c6 c7 c8 c9 : Value} {C : List (Clr × Value)} {U : List (Rul × Value)} {G : List (Grn × Value)} {b k : Nat} {S : List Txt} (r : Toks) (w : World) (h : StX w0 w g lv L n st r c3 c4 c5 c6 c7 c8 c9 C U G b k S) :
    Calls Tryz.prog 65 #[.pointer (some ⟨g, 0, none⟩)] w (SOut w0 g lv L n (saysT st r)) := by
  cases hc : nameT principalB r with
  | error e => exact psays_ru r w h (fun who r1 r2 h1 _ => by rw [hc] at h1; cases h1)
  | ok x =>
    obtain ⟨who, r1⟩ := x
    cases hm : mustT wSays r1 with
    | error e => exact psays_ru r w h (fun who r1 r2 h1 h2 => by rw [hc] at h1; injection h1 with h1; injection h1 with h3 h4; subst h4; rw [hm] at h2; cases h2)
    | ok r2 =>
      have key : ∀ v, isT wCansay (r2.drop 1) = v → ∀ who' r1' r2', nameT principalB r = .ok (who', r1') → mustT wSays r1' = .ok r2' → isT wCansay (r2'.drop 1) = v := by
        intro v hv who' r1' r2' h1 h2
        rw [hc] at h1
        injection h1 with h1; injection h1 with h3 h4
        subst h4
        rw [hm] at h2
        injection h2 with h2
        subst h2
        exact hv
      cases hv : isT wCansay (r2.drop 1) with
      | false => exact psays_ru r w h (key _ hv)
      | true => exact psays_gr r w h (key _ hv)
end Go.Proofs.YtnfjjckbgnieeaaGreatDoor

namespace Go.Proofs.YtnfjjckbgnieeaaGreatDoor
open Go.RowKit Go.Maps Go.WideMaps

theorem Since.grown0 {a b : World} (h : Since a b) : a.grownBy b none := ⟨h.os, h.tape, h.output, h.size, fun k hk _ => h.block k hk⟩
/-- How a method value in a map reads. -/
def fnElem : Value → Option (DataW Unit × List MemPlace)
  | .func (.func f) a c => if a.size = 0 ∧ c.size = 0 then some (.lit (.int .i64 ((f : Nat) : Int)), []) else none
  | .nilFunc => some (.lit (.bool false), [])
  | _ => none
theorem fnElem_inv {v : Value} {f : Nat} {ps : List MemPlace} (h : fnElem v = some (.lit (.int .i64 (f : Int)), ps)) : v = .func (.func f) #[] #[] := by
  cases v with
  | func fn a c =>
    cases fn with
    | func f' =>
      simp only [fnElem] at h
      split at h
      · next hs =>
        injection h with h
        injection h with h _
        injection h with h
        injection h with _ h
        have e : f' = f := Int.ofNat.inj h
        have e1 := Array.eq_empty_of_size_eq_zero hs.1
        have e2 := Array.eq_empty_of_size_eq_zero hs.2
        rw [e, e1, e2]
      · cases h
    | _ => cases h
  | nilFunc =>
    simp only [fnElem] at h
    injection h with h
    injection h with h _
    injection h with h
    cases h
  | _ => cases h
theorem fnElem_nil {v : Value} {ps : List MemPlace} (h : fnElem v = some (.lit (.bool false), ps)) : v = .nilFunc := by
  cases v with
  | func fn a c =>
    cases fn with
    | func f' =>
      simp only [fnElem] at h
      split at h
      · injection h with h
        injection h with h _
        injection h with h
        cases h
      · cases h
    | _ => cases h
  | nilFunc => rfl
  | _ => cases h
/-- The words and their methods. -/
def wordD : DataW Unit := (DataW.put (DataW.put (DataW.put (DataW.put (DataW.put (.map []) (.string wPrincipal) (.lit (.int .i64 ((59 : Nat) : Int)))) (.string wPred) (.lit (.int .i64 ((60 : Nat) : Int)))) (.string wClear) (.lit (.int .i64 ((61 : Nat) : Int)))) (.string wQuota) (.lit (.int .i64 ((62 : Nat) : Int)))) (.string wBudget) (.lit (.int .i64 ((63 : Nat) : Int))))
theorem word_miss {s : Txt} (h : s ≠ wPrincipal ∧ s ≠ wPred ∧ s ≠ wClear ∧ s ≠ wQuota ∧ s ≠ wBudget) : Maps.has wordD (.string s) = false ∧ DataW.atKey wordD (.string s) (.lit (.bool false)) = .lit (.bool false) := by
  have ne : ∀ k : Txt, s ≠ k → Lit.string s ≠ Lit.string k := fun k hk e => hk (by injection e)
  have hh : Maps.has wordD (.string s) = false := by
    unfold wordD
    rw [has_put_other (ne _ h.2.2.2.2), has_put_other (ne _ h.2.2.2.1), has_put_other (ne _ h.2.2.1), has_put_other (ne _ h.2.1), has_put_other (ne _ h.1)]
    rfl
  exact ⟨hh, atKey_of_not_has hh _⟩
theorem word_look {W : World} {b n : Nat} (h : W.ownsMap Tryz.prog 9 fnElem b n wordD) {s : Txt} (hs : s.length ≤ maxLen) {f : Nat} (h1 : Maps.has wordD (.string s) = true) (h2 : DataW.atKey wordD (.string s) (.lit (.bool false)) = .lit (.int .i64 (f : Int))) :
    (Instr.lookup 105 (.map (some b)) (.string ⟨s.toArray⟩) true).run Tryz.prog W = .ok (.tuple #[.func (.func f) #[] #[], .bool true]) W := by
  obtain ⟨v, ps, hrun, hv⟩ := h.look_ok klaw Tryz.underlying105 (show (zeroValue 84).run Tryz.prog W = .ok .nilFunc W by kernel_rfl) (show fnElem .nilFunc = some (.lit (.bool false), []) from rfl) (keyOf_string_mk Tryz.underlying9 (s := ⟨s.toArray⟩) hs)
  rw [show (ByteArray.mk s.toArray).data.toList = s by simp] at hrun hv
  rw [h2] at hv
  rw [h1, fnElem_inv hv] at hrun
  exact hrun
theorem word_none {W : World} {b n : Nat} (h : W.ownsMap Tryz.prog 9 fnElem b n wordD) {s : Txt} (hs : s.length ≤ maxLen) (h1 : Maps.has wordD (.string s) = false) :
    (Instr.lookup 105 (.map (some b)) (.string ⟨s.toArray⟩) true).run Tryz.prog W = .ok (.tuple #[.nilFunc, .bool false]) W := by
  obtain ⟨v, ps, hrun, hv⟩ := h.look_ok klaw Tryz.underlying105 (show (zeroValue 84).run Tryz.prog W = .ok .nilFunc W by kernel_rfl) (show fnElem .nilFunc = some (.lit (.bool false), []) from rfl) (keyOf_string_mk Tryz.underlying9 (s := ⟨s.toArray⟩) hs)
  rw [show (ByteArray.mk s.toArray).data.toList = s by simp] at hrun hv
  rw [atKey_of_not_has h1] at hv
  rw [h1, fnElem_nil hv] at hrun
  exact hrun
theorem word_grow {w0 w w' : World} {b : Nat} (h : Since w0 w) (hb : w0.heap.size ≤ b) (hg : w.grownBy w' (some b)) : Since w0 w' := Below.grown h hg h.size (fun j hj => by cases hj; exact hb)
/-- The map is made. -/
theorem words_made (w : World) : ∃ w1 w2 w3 w4 w5, (Instr.mapUpdate 105 (.map (some w.heap.size)) (.string ⟨#[112, 114, 105, 110, 99, 105, 112, 97, 108]⟩) (.func (.func 59) #[] #[])).run Tryz.prog (w.alloc (.map #[] 0)) = .ok () w1 ∧ (Instr.mapUpdate 105 (.map (some w.heap.size)) (.string ⟨#[112, 114, 101, 100]⟩) (.func (.func 60) #[] #[])).run Tryz.prog w1 = .ok () w2 ∧ (Instr.mapUpdate 105 (.map (some w.heap.size)) (.string ⟨#[99, 108, 101, 97, 114]⟩) (.func (.func 61) #[] #[])).run Tryz.prog w2 = .ok () w3 ∧ (Instr.mapUpdate 105 (.map (some w.heap.size)) (.string ⟨#[113, 117, 111, 116, 97]⟩) (.func (.func 62) #[] #[])).run Tryz.prog w3 = .ok () w4 ∧ (Instr.mapUpdate 105 (.map (some w.heap.size)) (.string ⟨#[98, 117, 100, 103, 101, 116]⟩) (.func (.func 63) #[] #[])).run Tryz.prog w4 = .ok () w5 ∧ Since w w5 ∧ w5.ownsMap Tryz.prog 9 fnElem w.heap.size 5 wordD := by
  have o0 : (w.alloc (.map #[] 0)).ownsMap Tryz.prog 9 fnElem w.heap.size 0 (.map []) := World.ownsMap_made _ _ _ _
  have s0 : Since w (w.alloc (.map #[] 0)) := (Since.refl w).alloc _
  obtain ⟨w1, h1, o1, g1⟩ := o0.update klaw Tryz.underlying105 (key := .string ⟨#[112, 114, 105, 110, 99, 105, 112, 97, 108]⟩) (val := .func (.func 59) #[] #[]) (by decide) (keyOf_string_mk Tryz.underlying9 (s := ⟨#[112, 114, 105, 110, 99, 105, 112, 97, 108]⟩) (by decide)) (show fnElem _ = some (.lit (.int .i64 ((59 : Nat) : Int)), []) from rfl)
  have s1 := word_grow s0 (Nat.le_refl _) g1
  obtain ⟨w2, h2, o2, g2⟩ := o1.update klaw Tryz.underlying105 (key := .string ⟨#[112, 114, 101, 100]⟩) (val := .func (.func 60) #[] #[]) (by decide) (keyOf_string_mk Tryz.underlying9 (s := ⟨#[112, 114, 101, 100]⟩) (by decide)) (show fnElem _ = some (.lit (.int .i64 ((60 : Nat) : Int)), []) from rfl)
  have s2 := word_grow s1 (Nat.le_refl _) g2
  obtain ⟨w3, h3, o3, g3⟩ := o2.update klaw Tryz.underlying105 (key := .string ⟨#[99, 108, 101, 97, 114]⟩) (val := .func (.func 61) #[] #[]) (by decide) (keyOf_string_mk Tryz.underlying9 (s := ⟨#[99, 108, 101, 97, 114]⟩) (by decide)) (show fnElem _ = some (.lit (.int .i64 ((61 : Nat) : Int)), []) from rfl)
  have s3 := word_grow s2 (Nat.le_refl _) g3
  obtain ⟨w4, h4, o4, g4⟩ := o3.update klaw Tryz.underlying105 (key := .string ⟨#[113, 117, 111, 116, 97]⟩) (val := .func (.func 62) #[] #[]) (by decide) (keyOf_string_mk Tryz.underlying9 (s := ⟨#[113, 117, 111, 116, 97]⟩) (by decide)) (show fnElem _ = some (.lit (.int .i64 ((62 : Nat) : Int)), []) from rfl)
  have s4 := word_grow s3 (Nat.le_refl _) g4
  obtain ⟨w5, h5, o5, g5⟩ := o4.update klaw Tryz.underlying105 (key := .string ⟨#[98, 117, 100, 103, 101, 116]⟩) (val := .func (.func 63) #[] #[]) (by decide) (keyOf_string_mk Tryz.underlying9 (s := ⟨#[98, 117, 100, 103, 101, 116]⟩) (by decide)) (show fnElem _ = some (.lit (.int .i64 ((63 : Nat) : Int)), []) from rfl)
  have s5 := word_grow s4 (Nat.le_refl _) g5
  exact ⟨w1, w2, w3, w4, w5, h1, h2, h3, h4, h5, s5, o5⟩
set_option maxHeartbeats 4000000 in
set_option maxRecDepth 100000 in
theorem pstmt_kw {w0 : World} {g : Nat} {lv : Value} {L : List Tk} {n : Nat} {st : PSt} {c3 c4 c5 c6 c7 c8 c9 : Value} {C : List (Clr × Value)} {U : List (Rul × Value)} {G : List (Grn × Value)} {b k : Nat} {S : List Txt} (kw : Txt) (q : Toks) (f : FuncId) (m : Except PErr (PSt × Toks)) (hkl : kw.length ≤ maxLen) (hf : ∀ args W, (callFunc f args).run Tryz.prog W = .ok (.enter f args) W) (hl1 : Maps.has wordD (.string kw) = true) (hl2 : DataW.atKey wordD (.string kw) (.lit (.bool false)) = .lit (.int .i64 (f : Int)))
    (hpart : partT st (kw :: q) = m) (hcon : ∀ W, StX w0 W g lv L n st q c3 c4 c5 c6 c7 c8 c9 C U G b k S → Calls Tryz.prog f #[.pointer (some ⟨g, 0, none⟩)] W (SOut w0 g lv L n m)) (w : World) (h : StX w0 w g lv L n st (kw :: q) c3 c4 c5 c6 c7 c8 c9 C U G b k S) :
    Calls Tryz.prog 38 #[.pointer (some ⟨g, 0, none⟩)] w (SOut w0 g lv L n (stmtT st (kw :: q))) := by
  obtain ⟨R, hR⟩ : ∃ R, Hid (R = stmtT st (kw :: q)) := ⟨_, rfl⟩
  obtain ⟨K, hK⟩ : ∃ K : Ending → World → Prop, Hid (K = SOut w0 g lv L n R) := ⟨_, rfl⟩
  have hbad : Hid (∀ k er w', R = .error (k, er) → Since w0 w' → K (.panicked [FlawE (placeK L n k) er]) w') := fun k er w' e h => by rw [hK.out, e]; exact ⟨rfl, h⟩
  have hgood : Hid (∀ st1 r1 w', R = .ok (st1, r1) → St w0 g lv L n st1 r1 w' → K (.returned (.tuple #[])) w') := fun st1 r1 w' e h => by rw [hK.out, e]; exact ⟨rfl, h⟩
  rw [← hR.out, ← hK.out]
  clear hK
  have hmm := @run_makeMap Tryz.prog
  obtain ⟨w1, w2, w3, w4, w5, h1, h2, h3, h4, h5, hs5, ho5⟩ := words_made w
  have HX := Lib.hid (h.next hs5)
  obtain ⟨i, hi⟩ : ∃ i, Hid (i = L.length - (kw :: q).length) := ⟨_, rfl⟩
  have c1 : w5.cell? ⟨g, 1, none⟩ = some (.int .i64 (i : Int)) := by rw [hi.out]; exact HX.out.prs.par.cel.cell 1
  have HTX := Lib.hid (ptext_here w5 HX.out.prs.par)
  rw [← hi.out] at HTX
  have HO := Lib.hid ho5
  have HTX2 : Hid (Calls Tryz.prog 64 #[.pointer (some ⟨g, 0, none⟩), .int .i64 (i : Int)] w5 fun e w' => e = .returned (.string ⟨kw.toArray⟩) ∧ Since w5 w') := HTX.out
  have hwi : wrap64 ((i : Int) + 1) = (i : Int) + 1 := IntWalk.wrap64_in _ (by have := HX.out.prs.par.len; rw [hi.out]; omega)
  have HST : Hid (∀ W, Since w5 W → StX w0 (W.setCell ⟨g, 1, none⟩ (.int .i64 ((i : Int) + 1))) g lv L n st q c3 c4 c5 c6 c7 c8 c9 C U G b k S ∧ W.cell? ⟨g, 1, none⟩ = some (.int .i64 (i : Int)) ∧ W.frozen? ⟨g, 1, none⟩ = false ∧ g < W.heap.size) := by
    intro W hb
    have hx := HX.out.next hb
    have h2 := hx.prs.par.step
    rw [← hi.out] at h2
    refine ⟨hx.only h2.2 (hx.prs.only h2.2 h2.1) (by rw [List.length_cons]; omega), hb.cell c1, hx.prs.par.cel.free 1, hx.prs.par.cel.lt⟩
  have HLK : Hid (∀ W, Since w5 W → (Instr.lookup 105 (.map (some w.heap.size)) (.string ⟨kw.toArray⟩) true).run Tryz.prog W = .ok (.tuple #[.func (.func f) #[] #[], .bool true]) W) := fun W hb => word_look (HO.out.kept (Since.grown0 hb) (by simp)) hkl hl1 hl2
  have hR1 := hR.out
  rw [stmtT, hpart] at hR1
  have HR := Lib.hid hR1
  have HCON := Lib.hid hcon
  clear HTX hi HO h hs5 ho5 hR hR1 hl1 hl2 hpart hcon HX
  go_enter Tryz.func38, Tryz.ntmps38
  go_wp2_with fail
  refine HTX2.out.mono ?_
  rintro e w7 ⟨rfl, hb7⟩
  have hlk := HLK.out _ hb7
  obtain ⟨hx8, c7, z7, l7⟩ := HST.out _ hb7
  clear HTX2 h1 h2 h3 h4 h5 hmm c1 HLK HST hb7
  go_upto_region 4 with (fail)
  generalize w7.setCell ⟨g, 1, none⟩ (.int .i64 ((i : Int) + 1)) = w8 at *
  have HCM := Lib.hid (HCON.out w8 hx8)
  clear hlk hx8 c7 z7 l7 HCON hwi
  cases hm : m with
  | error x =>
    obtain ⟨k1, er⟩ := x
    have hH := HCM.out
    rw [hm] at hH
    have HC2 : Hid (Calls Tryz.prog f #[.pointer (some ⟨g, 0, none⟩)] w8 fun e w' => e = .panicked [FlawE (placeK L n k1) er] ∧ Since w0 w') := hH
    have hR1 := HR.out
    rw [hm] at hR1
    have HR1 : Hid (R = .error (k1, er)) := hR1
    clear HCM hH hR1 HR hm hgood
    go_wp2_with fail
    refine HC2.out.mono ?_
    rintro e wz ⟨rfl, hk⟩
    go_wp2_with fail
    exact ⟨rfl, hbad.out _ _ _ HR1.out hk⟩
  | ok x =>
    obtain ⟨st1, r1⟩ := x
    have hH := HCM.out
    rw [hm] at hH
    have HC2 : Hid (Calls Tryz.prog f #[.pointer (some ⟨g, 0, none⟩)] w8 fun e w' => e = .returned (.tuple #[]) ∧ St w0 g lv L n st1 r1 w') := hH
    have hR1 := HR.out
    rw [hm] at hR1
    simp only at hR1
    replace HR := Lib.hid hR1
    clear HCM hH hR1 hm
    go_wp2_with fail
    refine HC2.out.mono ?_
    rintro e w9 ⟨rfl, hf⟩
    obtain ⟨d3, d4, d5, d6, d7, d8, d9, C2, U2, G2, b2, k2, S2, hX1⟩ := hf
    have HX1 := Lib.hid hX1
    clear HC2 hX1
    have HMU := Lib.hid (pmust_here [46] HX1.out.prs (by decide))
    cases hc : mustT [46] r1 with
    | error x =>
      obtain ⟨k1, er⟩ := x
      have hH := HMU.out
      rw [hc] at hH
      have HC2 : Hid (Calls Tryz.prog 66 #[.pointer (some ⟨g, 0, none⟩), .string ⟨#[46]⟩] w9 fun e w' => e = .panicked [FlawE (placeK L n k1) er] ∧ OnlyG g w9 w') := hH
      have hR1 := HR.out
      rw [hc] at hR1
      have HR1 : Hid (R = .error (k1, er)) := hR1
      have HS : Hid (∀ w', OnlyG g w9 w' → Since w0 w') := fun w' hk => only_new0 HX1.out.prs hk
      clear HMU hH hR1 HR hc hgood HX1
      go_wp2_with fail
      refine HC2.out.mono ?_
      rintro e wz ⟨rfl, hk⟩
      go_wp2_with fail
      exact ⟨rfl, hbad.out _ _ _ HR1.out (HS.out _ hk)⟩
    | ok r2 =>
      have hH := HMU.out
      rw [hc] at hH
      have HC2 : Hid (Calls Tryz.prog 66 #[.pointer (some ⟨g, 0, none⟩), .string ⟨#[46]⟩] w9 fun e w' => e = .returned (.tuple #[]) ∧ Prs w0 w' g lv L n r2 d3 d4 d5 d6 d7 d8 d9 (.map (some b2)) ∧ OnlyG g w9 w') := hH
      have hR1 := HR.out
      rw [hc] at hR1
      simp only at hR1
      have HR1 := Lib.hid hR1
      have hl : r2.length ≤ r1.length := by have := congrArg List.length (mustT_ok hc); rw [List.length_cons] at this; omega
      have HL := Lib.hid hl
      clear HMU hH hR1 HR hc hbad hl
      go_wp2_with fail
      refine HC2.out.mono ?_
      rintro e wz ⟨rfl, hp, hk⟩
      have hf := Lib.hid (show St w0 g lv L n st1 r2 wz from ⟨_, _, _, _, _, _, _, _, _, _, _, _, _, HX1.out.only hk hp HL.out⟩)
      clear HX1 hp hk HC2
      go_wp2_with fail
      go_end0
      exact hgood.out _ _ _ HR1.out hf.out
set_option maxHeartbeats 4000000 in
set_option maxRecDepth 100000 in
theorem pstmt_says {w0 : World} {g : Nat} {lv : Value} {L : List Tk} {n : Nat} {st : PSt} {c3 c4 c5 c6 c7 c8 c9 : Value} {C : List (Clr × Value)} {U : List (Rul × Value)} {G : List (Grn × Value)} {b k : Nat} {S : List Txt} (r : Toks) (hno : r.headD [] ≠ wPrincipal ∧ r.headD [] ≠ wPred ∧ r.headD [] ≠ wClear ∧ r.headD [] ≠ wQuota ∧ r.headD [] ≠ wBudget) (w : World) (h : StX w0 w g lv L n st r c3 c4 c5 c6 c7 c8 c9 C U G b k S) :
    Calls Tryz.prog 38 #[.pointer (some ⟨g, 0, none⟩)] w (SOut w0 g lv L n (stmtT st r)) := by
  obtain ⟨R, hR⟩ : ∃ R, Hid (R = stmtT st r) := ⟨_, rfl⟩
  obtain ⟨K, hK⟩ : ∃ K : Ending → World → Prop, Hid (K = SOut w0 g lv L n R) := ⟨_, rfl⟩
  have hbad : Hid (∀ k er w', R = .error (k, er) → Since w0 w' → K (.panicked [FlawE (placeK L n k) er]) w') := fun k er w' e h => by rw [hK.out, e]; exact ⟨rfl, h⟩
  have hgood : Hid (∀ st1 r1 w', R = .ok (st1, r1) → St w0 g lv L n st1 r1 w' → K (.returned (.tuple #[])) w') := fun st1 r1 w' e h => by rw [hK.out, e]; exact ⟨rfl, h⟩
  rw [← hR.out, ← hK.out]
  clear hK
  have hmm := @run_makeMap Tryz.prog
  obtain ⟨w1, w2, w3, w4, w5, h1, h2, h3, h4, h5, hs5, ho5⟩ := words_made w
  have HX := Lib.hid (h.next hs5)
  obtain ⟨i, hi⟩ : ∃ i, Hid (i = L.length - r.length) := ⟨_, rfl⟩
  have c1 : w5.cell? ⟨g, 1, none⟩ = some (.int .i64 (i : Int)) := by rw [hi.out]; exact HX.out.prs.par.cel.cell 1
  have HTX := Lib.hid (ptext_here w5 HX.out.prs.par)
  rw [← hi.out] at HTX
  have HO := Lib.hid ho5
  have hpart : partT st r = saysT st r := by
    rw [partT, isT_head (by decide), isT_head (by decide), isT_head (by decide), isT_head (by decide), isT_head (by decide), decide_eq_false hno.1, decide_eq_false hno.2.1, decide_eq_false hno.2.2.1, decide_eq_false hno.2.2.2.1, decide_eq_false hno.2.2.2.2]
    simp
  obtain ⟨s, hs⟩ : ∃ s, Hid (s = r.headD []) := ⟨_, rfl⟩
  have hsl : s.length ≤ maxLen := by rw [hs.out]; exact h.prs.head
  rw [← hs.out] at HTX hno
  have HLK : Hid (∀ W, Since w5 W → (Instr.lookup 105 (.map (some w.heap.size)) (.string ⟨s.toArray⟩) true).run Tryz.prog W = .ok (.tuple #[.nilFunc, .bool false]) W) := fun W hb => word_none (HO.out.kept (Since.grown0 hb) (by simp)) hsl (word_miss hno).1
  have hR1 := hR.out
  rw [stmtT, hpart] at hR1
  have HR := Lib.hid hR1
  have HCON : Hid (∀ W, Since w5 W → Calls Tryz.prog 65 #[.pointer (some ⟨g, 0, none⟩)] W (SOut w0 g lv L n (saysT st r))) := fun W hb => psays_any r W (HX.out.next hb)
  clear hi HO h hs5 ho5 hR hR1 hno hpart HX hs hsl
  go_enter Tryz.func38, Tryz.ntmps38
  go_wp2_with fail
  refine HTX.out.mono ?_
  rintro e w7 ⟨rfl, hb7⟩
  have hlk := HLK.out _ hb7
  have HCM := Lib.hid (HCON.out _ hb7)
  clear HTX h1 h2 h3 h4 h5 hmm c1 HLK HCON hb7
  cases hm : saysT st r with
  | error x =>
    obtain ⟨k1, er⟩ := x
    have hH := HCM.out
    rw [hm] at hH
    have HC2 : Hid (Calls Tryz.prog 65 #[.pointer (some ⟨g, 0, none⟩)] w7 fun e w' => e = .panicked [FlawE (placeK L n k1) er] ∧ Since w0 w') := hH
    have hR1 := HR.out
    rw [hm] at hR1
    have HR1 : Hid (R = .error (k1, er)) := hR1
    clear HCM hH hR1 HR hm hgood
    go_wp2_with fail
    refine HC2.out.mono ?_
    rintro e wz ⟨rfl, hk⟩
    go_wp2_with fail
    exact ⟨rfl, hbad.out _ _ _ HR1.out hk⟩
  | ok x =>
    obtain ⟨st1, r1⟩ := x
    have hH := HCM.out
    rw [hm] at hH
    have HC2 : Hid (Calls Tryz.prog 65 #[.pointer (some ⟨g, 0, none⟩)] w7 fun e w' => e = .returned (.tuple #[]) ∧ St w0 g lv L n st1 r1 w') := hH
    have hR1 := HR.out
    rw [hm] at hR1
    simp only at hR1
    replace HR := Lib.hid hR1
    clear HCM hH hR1 hm
    go_wp2_with fail
    refine HC2.out.mono ?_
    rintro e w9 ⟨rfl, hf⟩
    obtain ⟨d3, d4, d5, d6, d7, d8, d9, C2, U2, G2, b2, k2, S2, hX1⟩ := hf
    have HX1 := Lib.hid hX1
    clear HC2 hX1
    have HMU := Lib.hid (pmust_here [46] HX1.out.prs (by decide))
    cases hc : mustT [46] r1 with
    | error x =>
      obtain ⟨k1, er⟩ := x
      have hH := HMU.out
      rw [hc] at hH
      have HC2 : Hid (Calls Tryz.prog 66 #[.pointer (some ⟨g, 0, none⟩), .string ⟨#[46]⟩] w9 fun e w' => e = .panicked [FlawE (placeK L n k1) er] ∧ OnlyG g w9 w') := hH
      have hR1 := HR.out
      rw [hc] at hR1
      have HR1 : Hid (R = .error (k1, er)) := hR1
      have HS : Hid (∀ w', OnlyG g w9 w' → Since w0 w') := fun w' hk => only_new0 HX1.out.prs hk
      clear HMU hH hR1 HR hc hgood HX1
      go_wp2_with fail
      refine HC2.out.mono ?_
      rintro e wz ⟨rfl, hk⟩
      go_wp2_with fail
      exact ⟨rfl, hbad.out _ _ _ HR1.out (HS.out _ hk)⟩
    | ok r2 =>
      have hH := HMU.out
      rw [hc] at hH
      have HC2 : Hid (Calls Tryz.prog 66 #[.pointer (some ⟨g, 0, none⟩), .string ⟨#[46]⟩] w9 fun e w' => e = .returned (.tuple #[]) ∧ Prs w0 w' g lv L n r2 d3 d4 d5 d6 d7 d8 d9 (.map (some b2)) ∧ OnlyG g w9 w') := hH
      have hR1 := HR.out
      rw [hc] at hR1
      simp only at hR1
      have HR1 := Lib.hid hR1
      have hl : r2.length ≤ r1.length := by have := congrArg List.length (mustT_ok hc); rw [List.length_cons] at this; omega
      have HL := Lib.hid hl
      clear HMU hH hR1 HR hc hbad hl
      go_wp2_with fail
      refine HC2.out.mono ?_
      rintro e wz ⟨rfl, hp, hk⟩
      have hf := Lib.hid (show St w0 g lv L n st1 r2 wz from ⟨_, _, _, _, _, _, _, _, _, _, _, _, _, HX1.out.only hk hp HL.out⟩)
      clear HX1 hp hk HC2
      go_wp2_with fail
      go_end0
      exact hgood.out _ _ _ HR1.out hf.out
theorem pstmt_any {w0 : World} {g : Nat} {lv : Value} {L : List Tk} {n : Nat} {st : PSt} {c3 c4 c5 c6 c7 c8 c9 : Value} {C : List (Clr × Value)} {U : List (Rul × Value)} {G : List (Grn × Value)} {b k : Nat} {S : List Txt} (r : Toks) (w : World) (h : StX w0 w g lv L n st r c3 c4 c5 c6 c7 c8 c9 C U G b k S) :
    Calls Tryz.prog 38 #[.pointer (some ⟨g, 0, none⟩)] w (SOut w0 g lv L n (stmtT st r)) := by
  by_cases hno : r.headD [] ≠ wPrincipal ∧ r.headD [] ≠ wPred ∧ r.headD [] ≠ wClear ∧ r.headD [] ≠ wQuota ∧ r.headD [] ≠ wBudget
  · exact pstmt_says r hno w h
  · have hcase : r.headD [] = wPrincipal ∨ r.headD [] = wPred ∨ r.headD [] = wClear ∨ r.headD [] = wQuota ∨ r.headD [] = wBudget := by
      by_cases a1 : r.headD [] = wPrincipal
      · exact .inl a1
      by_cases a2 : r.headD [] = wPred
      · exact .inr (.inl a2)
      by_cases a3 : r.headD [] = wClear
      · exact .inr (.inr (.inl a3))
      by_cases a4 : r.headD [] = wQuota
      · exact .inr (.inr (.inr (.inl a4)))
      by_cases a5 : r.headD [] = wBudget
      · exact .inr (.inr (.inr (.inr a5)))
      · exact absurd ⟨a1, a2, a3, a4, a5⟩ hno
    cases r with
    | nil => rcases hcase with h0 | h0 | h0 | h0 | h0 <;> cases h0
    | cons x q =>
      have hpre : ∃ p y, txtsK L = p ++ y :: q := by obtain ⟨p, hp⟩ := h.prs.par.suf; exact ⟨p, x, hp⟩
      have hk : k + 1 + q.length ≤ 70000 := by have := h.room.on; rw [List.length_cons] at this; omega
      have hcase' : x = wPrincipal ∨ x = wPred ∨ x = wClear ∨ x = wQuota ∨ x = wBudget := hcase
      rcases hcase' with rfl | rfl | rfl | rfl | rfl
      · exact pstmt_kw wPrincipal q 59 (principalT st q) (by decide) (fun _ _ => (by kernel_rfl)) (by kernel_rfl) (by kernel_rfl) rfl (fun W hW => pprincipal_any q W hW) w h
      · exact pstmt_kw wPred q 60 (predT st q) (by decide) (fun _ _ => (by kernel_rfl)) (by kernel_rfl) (by kernel_rfl) rfl (fun W hW => ppred_any q W hW) w h
      · exact pstmt_kw wClear q 61 (clearT st q) (by decide) (fun _ _ => (by kernel_rfl)) (by kernel_rfl) (by kernel_rfl) rfl (fun W hW => pclear_any q W hW) w h
      · exact pstmt_kw wQuota q 62 (quotaT st q) (by decide) (fun _ _ => (by kernel_rfl)) (by kernel_rfl) (by kernel_rfl) rfl (fun W hW => pquota_any q W hW hpre hk) w h
      · exact pstmt_kw wBudget q 63 (budgetT st q) (by decide) (fun _ _ => (by kernel_rfl)) (by kernel_rfl) (by kernel_rfl) rfl (fun W hW => pbudget_any q W hW hpre hk) w h
end Go.Proofs.YtnfjjckbgnieeaaGreatDoor

namespace Go.Proofs.YtnfjjckbgnieeaaGreatDoor
open Go.RowKit

theorem sti_int {o : Oper} {x y : Operand} {ev : Operand → Value} {g k : Nat} {v : Int} {cs : Array Value} {T : TypeId} (ho : o.op = Op.store 3 x y) (hx : ev x = .pointer (some ⟨g, k, none⟩)) (hy : ev y = .int .i64 v) (W : World) (h : Cel W g cs T) (hk : (cs[k]?).isSome = true) :
    (execOp ev o).run Tryz.prog W = .ok .skip (W.setCell ⟨g, k, none⟩ (.int .i64 v)) := by
  obtain ⟨u, hu⟩ := Option.isSome_iff_exists.1 hk
  have h1 : W.cell? ⟨g, k, none⟩ = some u := (h.cell k).trans hu
  have h2 := h.free k
  simp only [execOp, ho]
  go_simp
theorem sti_err {o : Oper} {x y : Operand} {ev : Operand → Value} {g k : Nat} {v : Int} {cs : Array Value} {T : TypeId} (ho : o.op = Op.store 30 x y) (hx : ev x = .pointer (some ⟨g, k, none⟩)) (hy : ev y = .int .i64 v) (W : World) (h : Cel W g cs T) (hk : (cs[k]?).isSome = true) :
    (execOp ev o).run Tryz.prog W = .ok .skip (W.setCell ⟨g, k, none⟩ (.int .i64 v)) := by
  obtain ⟨u, hu⟩ := Option.isSome_iff_exists.1 hk
  have h1 : W.cell? ⟨g, k, none⟩ = some u := (h.cell k).trans hu
  have h2 := h.free k
  simp only [execOp, ho]
  go_simp
set_option maxHeartbeats 1000000 in
theorem guarded1_idle (ab eb : Nat) (w : World) :
    CallsD Tryz.prog 58 #[.pointer (some ⟨ab, 0, none⟩), .pointer (some ⟨eb, 0, none⟩)] .returning w fun e u' w' => e = .returned (.tuple #[]) ∧ u' = .returning ∧ w' = w := by
  refine callsD_of_wpS Tryz.func58 rfl fun c₀ cs hu => ?_
  apply wpS_seq
  apply wpS_region
  simp [wpOpsS, go_sem, recoverD, hu, Tryz.ntmps58, Exit.thenS]
  refine wpS_of_wp ?_
  have ht : (#[Value.pointer (some { block := ab, off := 0 }), Value.pointer (some { block := eb, off := 0 })] ++ (Array.replicate 13 undef).setIfInBounds 3 Value.nilIface) = #[Value.pointer (some { block := ab, off := 0 }), Value.pointer (some { block := eb, off := 0 }), undef, undef, undef, .nilIface, undef, undef, undef, undef, undef, undef, undef, undef, undef] := rfl
  rw [ht]
  generalize hK : (fun (e : Exit) (a' : Act) (w' : World) => bodyPostS Tryz.prog Tryz.f58 c₀ cs (fun e u' w' => e = Ending.returned (Value.tuple #[]) ∧ u' = FrameMode.returning ∧ w' = w) e a' (c₀ :: cs) w') = K
  replace hK := Lib.hid hK
  go_wp2_with fail
  rw [← hK.out]
  clear hK
  cases c₀
  simp_all [bodyPostS, results, Tryz.results58]
set_option maxHeartbeats 1000000 in
set_option maxRecDepth 100000 in
theorem guarded1_caught (ab eb p : Nat) (er x y : Int) (w : World) (ha : Cel w ab #[.int .i64 x] 3) (he : Cel w eb #[.int .i64 y] 30) (hne : ab ≠ eb) :
    CallsD Tryz.prog 58 #[.pointer (some ⟨ab, 0, none⟩), .pointer (some ⟨eb, 0, none⟩)] (.panicking [FlawE p er]) w fun e u' w' => e = .returned (.tuple #[]) ∧ u' = .panicking [{ FlawE p er with recovered := true }] ∧ Cel w' ab #[.int .i64 (p : Int)] 3 ∧ Cel w' eb #[.int .i64 er] 30 ∧ Keep (fun b => b = ab ∨ b = eb) w w' := by
  refine callsD_of_wpS Tryz.func58 rfl fun c₀ cs hu => ?_
  apply wpS_seq
  apply wpS_region
  unfold FlawE at hu
  simp [wpOpsS, go_sem, recoverD, hu, Tryz.ntmps58, Exit.thenS]
  refine wpS_of_wp ?_
  have ht : (#[Value.pointer (some { block := ab, off := 0 }), Value.pointer (some { block := eb, off := 0 })] ++ (Array.replicate 13 undef).setIfInBounds 3 (Value.iface 104 (Value.agg #[Value.int IntKind.i64 (p : Int), Value.int IntKind.i64 er]))) = #[Value.pointer (some { block := ab, off := 0 }), Value.pointer (some { block := eb, off := 0 }), undef, undef, undef, Value.iface 104 (Value.agg #[Value.int IntKind.i64 (p : Int), Value.int IntKind.i64 er]), undef, undef, undef, undef, undef, undef, undef, undef, undef] := rfl
  rw [ht]
  generalize hK : (fun (e : Exit) (a' : Act) (w' : World) => bodyPostS Tryz.prog Tryz.f58 c₀ cs (fun e u' w' => e = Ending.returned (Value.tuple #[]) ∧ u' = FrameMode.panicking [{ v := (FlawE p er).v, recovered := true, goexit := (FlawE p er).goexit }] ∧ Cel w' ab #[.int .i64 (p : Int)] 3 ∧ Cel w' eb #[.int .i64 er] 30 ∧ Keep (fun b => b = ab ∨ b = eb) w w') e a' ({ fn := c₀.fn, tmps := c₀.tmps, todo := c₀.todo, defers := c₀.defers, mode := FrameMode.panicking [{ v := Value.iface 104 (Value.agg #[Value.int IntKind.i64 (p : Int), Value.int IntKind.i64 er]), recovered := true }], kind := c₀.kind, roundOf := c₀.roundOf } :: cs) w') = K
  replace hK := Lib.hid hK
  have hta : (Instr.typeAssert (Value.iface 104 (Value.agg #[Value.int IntKind.i64 (p : Int), Value.int IntKind.i64 er])) 20 104 true).run Tryz.prog w = .ok (.tuple #[.agg #[.int .i64 (p : Int), .int .i64 er], .bool true]) w := (by kernel_rfl)
  have hA := ha.lt
  have hE := he.lt
  have hS1 : Since w ((w.alloc (.cells #[.int .i64 (p : Int), .int .i64 er] 104))) := (Since.refl w).alloc _
  have hF1 : Cel (w.alloc (.cells #[.int .i64 (p : Int), .int .i64 er] 104)) w.heap.size #[.int .i64 (p : Int), .int .i64 er] 104 := heap_alloc_new w _
  clear ht
  go_upto_region 7 with (fail)
  generalize (w.alloc (.cells #[.int .i64 (p : Int), .int .i64 er] 104)) = w1 at *
  obtain ⟨nb, hnb⟩ : ∃ x, Hid (x = w.heap.size) := ⟨_, rfl⟩
  have n1 : ¬ nb = ab := by rw [hnb.out]; omega
  have n2 : ¬ nb = eb := by rw [hnb.out]; omega
  simp only [← hnb.out]
  rw [← hnb.out] at hF1
  clear hnb hA hE
  have ha1 := ha.next (hS1.trans (Since.refl w1).drew)
  have he1 := he.next (hS1.trans (Since.refl w1).drew)
  have hF2 := hF1.next (Since.refl w1).drew
  have hT : At w1.drew nb 0 #[.int .i64 (p : Int), .int .i64 er] := hF2.at
  refine hx_begin (S := fun W => At W nb 0 #[.int .i64 (p : Int), .int .i64 er]) (by kernel_rfl) hT (by kernel_rfl) (fun _ _ _ _ _ h => by rw [← hK.out] at h ⊢; exact h) (fun hns hQ => ?_)
  refine hx_take (i := 0) (oi := _) (v := .pointer (some ⟨nb, 0, none⟩)) rfl rfl hns (by kernel_rfl) (by kernel_rfl) hQ (by kernel_rfl) (fun _ _ => (by kernel_rfl)) hT ?_
  refine hx_take (i := 2) (oi := _) (v := .pointer (some ⟨nb, 1, none⟩)) rfl rfl hns (by kernel_rfl) (by kernel_rfl) hQ (by kernel_rfl) (fun _ _ => (by kernel_rfl)) hT ?_
  refine hx_take (i := 1) (oi := _) (v := .int .i64 (p : Int)) rfl rfl hns (by kernel_rfl) (by kernel_rfl) hQ (by kernel_rfl) (fun W hW => ld_one rfl (by kernel_rfl) (by kernel_rfl) W (hW 0 _ rfl)) hT ?_
  refine hx_take (i := 3) (oi := _) (v := .int .i64 er) rfl rfl hns (by kernel_rfl) (by kernel_rfl) hQ (by kernel_rfl) (fun W hW => ld_one rfl (by kernel_rfl) (by kernel_rfl) W (hW 1 _ rfl)) hT ?_
  have hT2 : At (w1.drew.setCell ⟨ab, 0, none⟩ (.int .i64 (p : Int))) nb 0 #[.int .i64 (p : Int), .int .i64 er] := (hF2.far (p := ⟨ab, 0, none⟩) n1 _).at
  have hT3 : At ((w1.drew.setCell ⟨ab, 0, none⟩ (.int .i64 (p : Int))).setCell ⟨eb, 0, none⟩ (.int .i64 er)) nb 0 #[.int .i64 (p : Int), .int .i64 er] := ((hF2.far (p := ⟨ab, 0, none⟩) n1 _).far (p := ⟨eb, 0, none⟩) n2 _).at
  have he2 := he1.far (p := ⟨ab, 0, none⟩) (fun e => hne e.symm) (.int .i64 (p : Int))
  have ha2 := ha1.set (j := 0) (u := .int .i64 (p : Int)) rfl
  refine hx_store (i := 4) (oi := _) (w1.drew.setCell ⟨ab, 0, none⟩ (.int .i64 (p : Int))) rfl rfl (by kernel_rfl) (by kernel_rfl) (sti_int rfl (by kernel_rfl) (by kernel_rfl) _ ha1 rfl) hT2 ?_
  refine hx_store (i := 5) (oi := _) ((w1.drew.setCell ⟨ab, 0, none⟩ (.int .i64 (p : Int))).setCell ⟨eb, 0, none⟩ (.int .i64 er)) rfl rfl (by kernel_rfl) (by kernel_rfl) (sti_err rfl (by kernel_rfl) (by kernel_rfl) _ he2 rfl) hT3 ?_
  refine wpAnyH_done (by kernel_rfl) ?_ _
  clear hns hQ hT hT2 hT3
  simp only [List.set_cons_zero, List.set_cons_succ]
  have hk : Keep (fun b => b = ab ∨ b = eb) w ((w1.drew.setCell ⟨ab, 0, none⟩ (.int .i64 (p : Int))).setCell ⟨eb, 0, none⟩ (.int .i64 er)) :=
    ((Keep.of_since (Z := fun b => b = ab ∨ b = eb) (hS1.trans (Since.refl w1).drew)).trans (Keep.of_grown (Z := fun b => b = ab ∨ b = eb) (grown_setCell _ ab 0 _) (fun b hb => by injection hb with hb; exact .inl hb.symm)) (fun _ h => .inl h)).trans (Keep.of_grown (Z := fun b => b = ab ∨ b = eb) (grown_setCell _ eb 0 _) (fun b hb => by injection hb with hb; exact .inr hb.symm)) (fun _ h => .inl h)
  have hc1 := ha2.far (p := ⟨eb, 0, none⟩) hne (.int .i64 er)
  have hc2 := he2.set (j := 0) (u := .int .i64 er) rfl
  clear hF1 hF2 ha1 he1 ha2 he2 ha he hS1
  go_wp2_with fail
  rw [← hK.out]
  clear hK
  cases c₀
  simp_all [bodyPostS, results, Tryz.results58, FlawE]
theorem toksF_lenG : ∀ (f : Nat) (r : List UInt8) (i : Nat), (toksF f r i).1.length ≤ r.length
  | 0, _, _ => by simp [toksF]
  | f + 1, r, i => by
    rw [toksF]
    cases ht : tokN (r.drop (skipN false r)) with
    | none => simp
    | some x =>
      cases x with
      | error e => simp
      | ok p =>
        obtain ⟨q, t⟩ := p
        obtain ⟨h1, r', h2⟩ := tokN_len ht
        have hl := congrArg List.length h2
        rw [List.length_drop, List.length_append] at hl
        have := toksF_lenG f (r.drop (skipN false r + t.length)) (i + skipN false r + t.length)
        rw [List.length_drop] at this
        simp only [List.length_cons]
        omega
theorem lex_fits (s : Txt) : (allL s).1.length ≤ 65536 ∧ ∀ x ∈ txtsK (allL s).1, x.length ≤ 65536 := by
  unfold allL
  by_cases h : 65536 < s.length
  · rw [if_pos h]; exact ⟨by simp, fun x hx => by cases hx⟩
  · rw [if_neg h]
    cases ht : toksL s with
    | mk l o =>
      cases o with
      | some e => exact ⟨by simp, fun x hx => by cases hx⟩
      | none =>
        have h1 := toksF_lenG (s.length + 1) s 0
        have h2 := toksF_good (s.length + 1) s 0
        have e : (toksF (s.length + 1) s 0).1 = l := by have := congrArg Prod.fst ht; exact this
        rw [e] at h1 h2
        refine ⟨by show l.length ≤ _; omega, fun x hx => ?_⟩
        obtain ⟨t, h3, rfl⟩ := List.mem_map.1 hx
        have := (h2 t h3).2.2.1
        omega
/-- What a reading of tokens answers. -/
def ROut {α : Type} (W4 : World) (pb : Nat) (L : List Tk) (n : Nat) (Got : Nat → α → World → Prop) (R : Except PErr α) (e : Ending) (w' : World) : Prop := match R with
  | .error (k, er) => e = .panicked [FlawE (placeK L n k) er] ∧ Since W4 w'
  | .ok x => e = .returned (.tuple #[]) ∧ Keep (fun b => b = pb) W4 w' ∧ Got W4.heap.size x w'
/-- What guarded answers. -/
def GOut {α : Type} (w : World) (pb : Nat) (s : Txt) (Got : Nat → α → World → Prop) (Rd : Toks → Except PErr α) (e : Ending) (w' : World) : Prop :=
  if (allL s).2.2 = 0 then (match Rd (txtsK (allL s).1) with
    | .error (k, er) => e = .returned (.tuple #[.int .i64 (placeK (allL s).1 s.length k : Int), .int .i64 er]) ∧ Since w w'
    | .ok x => e = .returned (.tuple #[.int .i64 0, .int .i64 0]) ∧ Keep (fun b => b = pb) w w' ∧ ∃ D, w.heap.size ≤ D ∧ Got D x w')
  else e = .returned (.tuple #[.int .i64 ((allL s).2.1 : Int), .int .i64 (allL s).2.2]) ∧ Since w w'
abbrev nilS : Value := .slice none 0 0
set_option maxHeartbeats 4000000 in
set_option maxRecDepth 100000 in
theorem guarded_any {α : Type} (s : Txt) (hs : s.length ≤ maxLen) (f : FuncId) (cap : Array Value) (hf : ∀ args W, (callFunc f args).run Tryz.prog W = .ok (.enter f args) W) (w : World) (hE : EnvT w) (pb : Nat) (hpb : pb < w.heap.size) (Rd : Toks → Except PErr α) (Got : Nat → α → World → Prop)
    (hstab : ∀ D x W W', Got D x W → Keep (fun b => w.heap.size ≤ b ∧ b < D) W W' → Got D x W')
    (hread : ∀ (W4 W : World) (g : Nat) (lv : Value) (b : Nat), Since w W4 → StX W4 W g lv (allL s).1 s.length pst0 (txtsK (allL s).1) nilS nilS nilS (.int .i64 0) (.int .i64 0) nilS nilS [] [] [] b 0 [] → Calls Tryz.prog f (#[.pointer (some ⟨g, 0, none⟩)] ++ cap) W (ROut W4 pb (allL s).1 s.length Got (Rd (txtsK (allL s).1)))) :
    Calls Tryz.prog 36 #[.string ⟨s.toArray⟩, .func (.func f) #[] cap] w (GOut w pb s Got Rd) := by
  have hmf : ∀ (fn : Fn) (first cap : Array Value) (w : World), (Instr.makeFunc fn first cap).run Tryz.prog w = .ok (.func fn first cap) w := fun _ _ _ _ => rfl
  have hmm := @run_makeMap Tryz.prog
  have hS1 : Since w ((w.alloc (.cells #[.int .i64 0] 3)).alloc (.cells #[.int .i64 0] 30)) := ((Since.refl w).alloc _).alloc _
  have hA1 : Cel ((w.alloc (.cells #[.int .i64 0] 3)).alloc (.cells #[.int .i64 0] 30)) w.heap.size #[.int .i64 0] 3 := Cel.next (heap_alloc_new w _) ((Since.refl _).alloc _)
  have hB1 : Cel ((w.alloc (.cells #[.int .i64 0] 3)).alloc (.cells #[.int .i64 0] 30)) (w.heap.size + 1) #[.int .i64 0] 30 := by
    have k := heap_alloc_new (w.alloc (.cells #[.int .i64 0] 3)) (.cells #[.int .i64 0] 30)
    rw [show (w.alloc (.cells #[.int .i64 0] 3)).heap.size = w.heap.size + 1 by simp] at k
    exact k
  obtain ⟨R, hR⟩ : ∃ R, Hid (R = allL s) := ⟨_, rfl⟩
  have HALL := Lib.hid (all_any s)
  have HE := Lib.hid hE
  have HST := Lib.hid hstab
  have HRD := Lib.hid hread
  obtain ⟨K, hK⟩ : ∃ K : Ending → World → Prop, Hid (K = GOut w pb s Got Rd) := ⟨_, rfl⟩
  rw [← hK.out]
  clear hE hstab hread
  go_enter_defers Tryz.func36, Tryz.ntmps36
  go_upto_region 1 with (fail)
  generalize ((w.alloc (.cells #[.int .i64 0] 3)).alloc (.cells #[.int .i64 0] 30)) = w1 at *
  obtain ⟨ab, hab⟩ : ∃ x, Hid (x = w.heap.size) := ⟨_, rfl⟩
  obtain ⟨eb, heb⟩ : ∃ x, Hid (x = w.heap.size + 1) := ⟨_, rfl⟩
  have HN : Hid (ab ≠ eb ∧ w.heap.size ≤ ab ∧ w.heap.size ≤ eb ∧ ¬ ab = pb ∧ ¬ eb = pb) := by show _ ∧ _; rw [hab.out, heb.out]; omega
  simp only [← heb.out]
  simp only [← hab.out]
  rw [← hab.out] at hA1
  rw [← heb.out] at hB1
  clear hab heb
  obtain ⟨L, at_, er, hL⟩ : ∃ L at_ er, Hid (allL s = (L, at_, er)) := ⟨_, _, _, rfl⟩
  have HX := Lib.hid (HALL.out w1 hs)
  obtain ⟨lf1, lf2⟩ := lex_fits s
  unfold AllPost at HX
  rw [hL.out] at HX HRD lf1 lf2
  have HK1 : Hid (∀ e w', (if er = 0 then (match Rd (txtsK L) with
      | .error (k, er) => e = .returned (.tuple #[.int .i64 (placeK L s.length k : Int), .int .i64 er]) ∧ Since w w'
      | .ok x => e = .returned (.tuple #[.int .i64 0, .int .i64 0]) ∧ Keep (fun b => b = pb) w w' ∧ ∃ D, w.heap.size ≤ D ∧ Got D x w')
    else e = .returned (.tuple #[.int .i64 (at_ : Int), .int .i64 er]) ∧ Since w w') → K e w') := by
    intro e w' h
    rw [hK.out]
    unfold GOut
    rw [hL.out]
    exact h
  have HLF := Lib.hid (And.intro lf1 lf2)
  clear HALL hK hL R hR lf1 lf2
  have HX2 : Hid (Calls Tryz.prog 57 #[.string ⟨s.toArray⟩] w1 fun e w' => ∃ v, e = .returned (.tuple #[v, .int .i64 (at_ : Int), .int .i64 er]) ∧ w'.ownsRow w1.heap.size 63 3 v L.length (L.flatMap tkL) ∧ Since w1 w') := HX.out
  clear HX
  go_wp2_with fail
  refine HX2.out.mono ?_
  rintro e w2 ⟨v, rfl, hrow, hb⟩
  obtain ⟨va, vc, rfl⟩ := own_slice hrow
  have hA2 := hA1.next hb
  have hB2 := (hB1.next hb).far (p := ⟨ab, 0, none⟩) (fun e => HN.out.1 e.symm) (.int .i64 (at_ : Int))
  have a1 : w2.cell? ⟨ab, 0, none⟩ = some (.int .i64 0) := hA2.cell 0
  have a2 := hA2.free 0
  have a3 := hA2.lt
  have b1 : (w2.setCell ⟨ab, 0, none⟩ (.int .i64 (at_ : Int))).cell? ⟨eb, 0, none⟩ = some (.int .i64 0) := hB2.cell 0
  have b2 := hB2.free 0
  have b3 := hB2.lt
  have hA3 := (hA2.set (j := 0) (u := .int .i64 (at_ : Int)) rfl).far (p := ⟨eb, 0, none⟩) HN.out.1 (.int .i64 er)
  have hB3 := hB2.set (j := 0) (u := .int .i64 er) rfl
  have hS3 : Since w ((w2.setCell ⟨ab, 0, none⟩ (.int .i64 (at_ : Int))).setCell ⟨eb, 0, none⟩ (.int .i64 er)) := ((hS1.trans hb).setCell (p := ⟨ab, 0, none⟩) HN.out.2.1 _).setCell (p := ⟨eb, 0, none⟩) HN.out.2.2.1 _
  have hrow3 := own_setCell (j := 0) (u := .int .i64 er) (own_setCell (j := 0) (u := .int .i64 (at_ : Int)) hrow hA2 (by decide)) hB2 (by decide)
  clear HX2 hA1 hB1
  go_upto_region 2 with (fail)
  generalize ((w2.setCell ⟨ab, 0, none⟩ (.int .i64 (at_ : Int))).setCell ⟨eb, 0, none⟩ (.int .i64 er)) = w3 at *
  clear a1 a2 a3 b1 b2 b3 hA2 hB2 hrow hb hS1
  have a4 : w3.cell? ⟨ab, 0, none⟩ = some (.int .i64 (at_ : Int)) := hA3.cell 0
  have b4 : w3.cell? ⟨eb, 0, none⟩ = some (.int .i64 er) := hB3.cell 0
  by_cases h0 : er = 0
  · subst h0
    go_upto_region 5 with (fail)
    have hS4 : Since w3 ((w3.alloc (.map #[] 0)).alloc (.cells #[.slice va L.length vc, .int .i64 0, .int .i64 (s.length : Int), nilS, nilS, nilS, .int .i64 0, .int .i64 0, nilS, nilS, .map (some w3.heap.size)] 83)) := ((Since.refl w3).alloc _).alloc _
    have hX : StX w3 ((w3.alloc (.map #[] 0)).alloc (.cells #[.slice va L.length vc, .int .i64 0, .int .i64 (s.length : Int), nilS, nilS, nilS, .int .i64 0, .int .i64 0, nilS, nilS, .map (some w3.heap.size)] 83)) (w3.heap.size + 1) (.slice va L.length vc) L s.length pst0 (txtsK L) nilS nilS nilS (.int .i64 0) (.int .i64 0) nilS nilS [] [] [] w3.heap.size 0 [] := by
      have hlen : (txtsK L).length = L.length := by unfold txtsK; rw [List.length_map]
      have hcel := heap_alloc_new (w3.alloc (.map #[] 0)) (.cells #[.slice va L.length vc, .int .i64 0, .int .i64 (s.length : Int), nilS, nilS, nilS, .int .i64 0, .int .i64 0, nilS, nilS, .map (some w3.heap.size)] 83)
      rw [show (w3.alloc (.map #[] 0)).heap.size = w3.heap.size + 1 by simp] at hcel
      refine ⟨⟨⟨?_, own_base (own_since hrow3 hS4) (Nat.zero_le _), ⟨[], rfl⟩, HLF.out.1⟩, hS4, Nat.le_succ _, HE.out.next hS3, HLF.out.2⟩, POwn.nil _ _, (set_made w3).next ((Since.refl _).alloc _), Nat.le_refl _, rfl, rfl, ?_⟩
      · rw [hlen, Nat.sub_self]; exact hcel
      · have := HLF.out.1
        exact ⟨by show 0 + _ ≤ _; omega, by show 0 + _ ≤ _; omega, by show 0 + _ ≤ _; omega, by show 0 + _ ≤ _; omega, by show 0 + _ ≤ _; omega, by omega⟩
    have HR4 := Lib.hid (HRD.out w3 _ _ _ _ hS3 hX)
    have hlt := hA3.lt
    have hlt2 := hB3.lt
    obtain ⟨R, hR⟩ : ∃ R, Hid (R = Rd (txtsK L)) := ⟨_, rfl⟩
    rw [← hR.out] at HR4
    have HK2 : Hid (∀ e w', (match R with
        | .error (k, er) => e = .returned (.tuple #[.int .i64 (placeK L s.length k : Int), .int .i64 er]) ∧ Since w w'
        | .ok x => e = .returned (.tuple #[.int .i64 0, .int .i64 0]) ∧ Keep (fun b => b = pb) w w' ∧ ∃ D, w.heap.size ≤ D ∧ Got D x w') → K e w') := by
      intro e w' h
      refine HK1.out e w' ?_
      rw [if_pos rfl, ← hR.out]
      exact h
    clear HRD hX HK1 HLF HE hrow3 hR a4 b4 hS4
    cases R with
    | error x =>
      obtain ⟨k, er⟩ := x
      have HR5 : Hid (Calls Tryz.prog f (#[.pointer (some ⟨w3.heap.size + 1, 0, none⟩)] ++ cap) ((w3.alloc (.map #[] 0)).alloc (.cells #[.slice va L.length vc, .int .i64 0, .int .i64 (s.length : Int), nilS, nilS, nilS, .int .i64 0, .int .i64 0, nilS, nilS, .map (some w3.heap.size)] 83)) fun e w' => e = .panicked [FlawE (placeK L s.length k) er] ∧ Since w3 w') := HR4.out
      have HK3 : Hid (∀ w', Since w w' → K (.returned (.tuple #[.int .i64 (placeK L s.length k : Int), .int .i64 er])) w') := fun w' h => HK2.out _ _ ⟨rfl, h⟩
      clear HR4 HK2
      go_wp2_with fail
      refine HR5.out.mono ?_
      rintro e w8 ⟨rfl, hb8⟩
      have hA8 := hA3.next hb8
      have hB8 := hB3.next hb8
      clear HR5 hA3 hB3
      go_wp2_with fail
      refine leaves_cons (f := 58) (args := #[.pointer (some ⟨ab, 0, none⟩), .pointer (some ⟨eb, 0, none⟩)]) (by simp) (by simp [go_sem]) ?_
      refine (guarded1_caught ab eb (placeK L s.length k) er at_ 0 w8 hA8 hB8 HN.out.1).mono ?_
      rintro e u' w9 ⟨rfl, rfl, hA9, hB9, hk9⟩
      have q1 : w9.cell? ⟨ab, 0, none⟩ = some (.int .i64 (placeK L s.length k : Int)) := hA9.cell 0
      have q2 : w9.cell? ⟨eb, 0, none⟩ = some (.int .i64 er) := hB9.cell 0
      have hfin := Lib.hid (HK3.out w9 (hk9.since (hS3.trans hb8) (fun x hx => by rcases hx with rfl | rfl; exact HN.out.2.1; exact HN.out.2.2.1)))
      refine ⟨_, ?_, hfin.out⟩
      clear hA9 hB9 hk9 hA8 hB8 hS3 hb8 HK3 HST
      simp [results, Tryz.results36, go_sem, q1, q2]
    | ok x =>
      have HR5 : Hid (Calls Tryz.prog f (#[.pointer (some ⟨w3.heap.size + 1, 0, none⟩)] ++ cap) ((w3.alloc (.map #[] 0)).alloc (.cells #[.slice va L.length vc, .int .i64 0, .int .i64 (s.length : Int), nilS, nilS, nilS, .int .i64 0, .int .i64 0, nilS, nilS, .map (some w3.heap.size)] 83)) fun e w' => e = .returned (.tuple #[]) ∧ Keep (fun b => b = pb) w3 w' ∧ Got w3.heap.size x w') := HR4.out
      have HK3 : Hid (∀ w', Keep (fun b => b = pb) w w' → (∃ D, w.heap.size ≤ D ∧ Got D x w') → K (.returned (.tuple #[.int .i64 0, .int .i64 0])) w') := fun w' h1 h2 => HK2.out _ _ ⟨rfl, h1, h2⟩
      clear HR4 HK2
      go_wp2_with fail
      refine HR5.out.mono ?_
      rintro e w8 ⟨rfl, hk8, hgot⟩
      have hA8 := hk8.cel hA3 HN.out.2.2.2.1
      have hB8 := (hk8.cel hB3 HN.out.2.2.2.2).far (p := ⟨ab, 0, none⟩) (fun e => HN.out.1 e.symm) (.int .i64 0)
      have a1 : w8.cell? ⟨ab, 0, none⟩ = some (.int .i64 (at_ : Int)) := hA8.cell 0
      have a2 := hA8.free 0
      have a3 := hA8.lt
      have b1 : (w8.setCell ⟨ab, 0, none⟩ (.int .i64 0)).cell? ⟨eb, 0, none⟩ = some (.int .i64 0) := hB8.cell 0
      have b2 := hB8.free 0
      have b3 := hB8.lt
      have hA9 := (hA8.set (j := 0) (u := .int .i64 0) rfl).far (p := ⟨eb, 0, none⟩) HN.out.1 (.int .i64 0)
      have hB9 := hB8.set (j := 0) (u := .int .i64 0) rfl
      clear HR5 hA3 hB3
      have hk9 : Keep (fun b => b = ab ∨ b = eb) w8 ((w8.setCell ⟨ab, 0, none⟩ (.int .i64 0)).setCell ⟨eb, 0, none⟩ (.int .i64 0)) := (Keep.of_grown (Z := fun b => b = ab ∨ b = eb) (grown_setCell _ ab 0 _) (fun b hb => by injection hb with hb; exact .inl hb.symm)).trans (Keep.of_grown (Z := fun b => b = ab ∨ b = eb) (grown_setCell _ eb 0 _) (fun b hb => by injection hb with hb; exact .inr hb.symm)) (fun _ h => .inl h)
      have hgot2 := HST.out _ _ _ _ hgot (hk9.mono (fun b hb => by rcases hb with rfl | rfl; exact ⟨HN.out.2.1, hlt⟩; exact ⟨HN.out.2.2.1, hlt2⟩))
      have hkeep : Keep (fun b => b = pb) w ((w8.setCell ⟨ab, 0, none⟩ (.int .i64 0)).setCell ⟨eb, 0, none⟩ (.int .i64 0)) := ((Keep.of_since (Z := fun b => b = pb) hS3).trans hk8 (fun _ h => .inl h)).trans hk9 (fun b hb => .inr (by rcases hb with rfl | rfl; exact HN.out.2.1; exact HN.out.2.2.1))
      have hfin := Lib.hid (HK3.out _ hkeep ⟨w3.heap.size, hS3.size, hgot2⟩)
      have q1 := hA9.cell 0
      have q2 := hB9.cell 0
      clear hk9 hgot2 hkeep hgot hk8 HK3 HST hA9 hB9 hA8 hB8 hS3
      go_wp2_with fail
      refine leaves_cons (f := 58) (args := #[.pointer (some ⟨ab, 0, none⟩), .pointer (some ⟨eb, 0, none⟩)]) (by simp) (by simp [go_sem]) ?_
      refine (guarded1_idle ab eb _).mono ?_
      rintro e u' w9 ⟨rfl, rfl, rfl⟩
      refine ⟨_, ?_, hfin.out⟩
      generalize ((w8.setCell ⟨ab, 0, none⟩ (.int .i64 0)).setCell ⟨eb, 0, none⟩ (.int .i64 0)) = wq at *
      have q3 : wq.cell? ⟨ab, 0, none⟩ = some (.int .i64 0) := q1
      have q4 : wq.cell? ⟨eb, 0, none⟩ = some (.int .i64 0) := q2
      simp [results, Tryz.results36, go_sem, q3, q4]
  · have hz0 : ¬ er = 0 := h0
    go_upto_region 3 with (fail)
    have a6 : w3.frozen? ⟨ab, 0, none⟩ = false := hA3.free 0
    have b9 : w3.frozen? ⟨eb, 0, none⟩ = false := hB3.free 0
    have a7 : ab < w3.heap.size := hA3.lt
    have b8 : eb < w3.heap.size := hB3.lt
    have hB5 := hB3.far (p := ⟨ab, 0, none⟩) (fun e => HN.out.1 e.symm) (.int .i64 (at_ : Int))
    have hA5 := (hA3.set (j := 0) (u := .int .i64 (at_ : Int)) rfl).far (p := ⟨eb, 0, none⟩) HN.out.1 (.int .i64 er)
    have hB6 := hB5.set (j := 0) (u := .int .i64 er) rfl
    have b6 : (w3.setCell ⟨ab, 0, none⟩ (.int .i64 (at_ : Int))).cell? ⟨eb, 0, none⟩ = some (.int .i64 er) := hB5.cell 0
    have hSf : Since w ((w3.setCell ⟨ab, 0, none⟩ (.int .i64 (at_ : Int))).setCell ⟨eb, 0, none⟩ (.int .i64 er)).drew := ((hS3.setCell (p := ⟨ab, 0, none⟩) HN.out.2.1 _).setCell (p := ⟨eb, 0, none⟩) HN.out.2.2.1 _).drew
    have q1 : ((w3.setCell ⟨ab, 0, none⟩ (.int .i64 (at_ : Int))).setCell ⟨eb, 0, none⟩ (.int .i64 er)).drew.cell? ⟨ab, 0, none⟩ = some (.int .i64 (at_ : Int)) := hA5.cell 0
    have q2 : ((w3.setCell ⟨ab, 0, none⟩ (.int .i64 (at_ : Int))).setCell ⟨eb, 0, none⟩ (.int .i64 er)).drew.cell? ⟨eb, 0, none⟩ = some (.int .i64 er) := hB6.cell 0
    have hfin := Lib.hid (HK1.out (.returned (.tuple #[.int .i64 (at_ : Int), .int .i64 er])) ((w3.setCell ⟨ab, 0, none⟩ (.int .i64 (at_ : Int))).setCell ⟨eb, 0, none⟩ (.int .i64 er)).drew (by rw [if_neg h0]; exact ⟨rfl, hSf⟩))
    clear hA3 hB3 hA5 hB5 hB6 hSf hS3 hrow3 HRD HST HLF HE HK1
    go_region
    go_wp2_with fail
    refine ⟨_, ?_, hfin.out⟩
    generalize ((w3.setCell ⟨ab, 0, none⟩ (.int .i64 (at_ : Int))).setCell ⟨eb, 0, none⟩ (.int .i64 er)).drew = wq at *
    simp [results, Tryz.results36, go_sem, q1, q2]
end Go.Proofs.YtnfjjckbgnieeaaGreatDoor

namespace Go.Proofs.YtnfjjckbgnieeaaGreatDoor
open Go.RowKit

/-- A policy that was read: its cells, its rows. -/
def PolGot (pb : Nat) (D : Nat) (P : Pol) (W : World) : Prop := ∃ c3 c4 c5 c6 c7 c8 c9 C U G, Cel W pb #[c3, c4, c5, c6, c7, c8, c9] 29 ∧ POwn W D c3 c4 c5 c6 c7 c8 c9 P C U G
theorem POwn.keep {W W' : World} {D : Nat} {Z : Nat → Prop} {c3 c4 c5 c6 c7 c8 c9 : Value} {P : Pol} {C : List (Clr × Value)} {U : List (Rul × Value)} {G : List (Grn × Value)} (h : POwn W D c3 c4 c5 c6 c7 c8 c9 P C U G) (hk : Keep Z W W') (hz : ∀ b, Z b → b < D) : POwn W' D c3 c4 c5 c6 c7 c8 c9 P C U G := by
  have key : ∀ {e : TypeId} {K m : Nat} {v : Value} {xs : List Value}, W.ownsRow D e K v m xs → W'.ownsRow D e K v m xs := fun hr => hk.own hr (fun b hb hzb => by have := (hr.lt b hb).1; have := hz b hzb; omega)
  exact ⟨key h.pr, key h.pd, ⟨key h.cl.row, fun p hp => key (h.cl.ins p hp), h.cl.apart⟩, ⟨key h.ru.row, fun p hp => key (h.ru.ins p hp), h.ru.apart⟩, ⟨key h.gr.row, fun p hp => key (h.gr.ins p hp), h.gr.apart⟩, h.eC, h.eU, h.eG, h.qu, h.bu, h.aC, h.aU⟩
theorem polinfoC : (Tryz.prog.info? 29).map (·.size) = some 7 := by kernel_rfl
set_option maxHeartbeats 4000000 in
set_option maxRecDepth 100000 in
theorem policy1_any {w0 : World} {g : Nat} {lv : Value} {L : List Tk} {n : Nat} (pb : Nat) (st : PSt) (r : Toks) (w : World) (cs0 : Array Value) (hpb : pb < w0.heap.size) (hcs : cs0.size = 7) (hP : Cel w0 pb cs0 29) (h : St w0 g lv L n st r w) :
    Calls Tryz.prog 37 #[.pointer (some ⟨g, 0, none⟩), .pointer (some ⟨pb, 0, none⟩)] w (ROut w0 pb L n (fun D P W => PolGot pb D P W) ((polG st r).map (·.p))) := by
  obtain ⟨R, hR⟩ : ∃ R, Hid (R = (polG st r).map (·.p)) := ⟨_, rfl⟩
  obtain ⟨K, hK⟩ : ∃ K : Ending → World → Prop, Hid (K = ROut w0 pb L n (fun D P W => PolGot pb D P W) R) := ⟨_, rfl⟩
  have hbad : Hid (∀ k er w', R = .error (k, er) → Since w0 w' → K (.panicked [FlawE (placeK L n k) er]) w') := fun k er w' e h => by rw [hK.out, e]; exact ⟨rfl, h⟩
  have hgood : Hid (∀ P w', R = .ok P → Keep (fun b => b = pb) w0 w' → PolGot pb w0.heap.size P w' → K (.returned (.tuple #[])) w') := fun P w' e h h2 => by rw [hK.out, e]; exact ⟨rfl, h, h2⟩
  rw [← hR.out, ← hK.out]
  have HR := Lib.hid hR.out
  have HP := Lib.hid hP
  clear hK hR hP
  go_enter Tryz.func37, Tryz.ntmps37
  go_wp2_with fail
  go_loopg [] r.length (fun m wr => ∃ (st1 : PSt) (r1 : Toks), m = r1.length ∧ Hid (R = (polG st1 r1).map (·.p)) ∧ St w0 g lv L n st1 r1 wr)
  case atStart => exact ⟨st, r, rfl, HR, h⟩
  case round =>
  clear h HR
  obtain ⟨st2, r2, rfl, HR2, hs⟩ := hrel
  obtain ⟨d3, d4, d5, d6, d7, d8, d9, C2, U2, G2, b2, k2, S2, hX⟩ := hs
  obtain ⟨va, vc, rfl⟩ := own_slice hX.prs.par.row
  obtain ⟨a3, e3, rfl⟩ := own_slice hX.own.pr
  obtain ⟨a4, e4, rfl⟩ := own_slice hX.own.pd
  obtain ⟨a5, e5, rfl⟩ := own_slice hX.own.cl.row
  obtain rfl := hX.own.qu
  obtain rfl := hX.own.bu
  obtain ⟨a8, e8, rfl⟩ := own_slice hX.own.ru.row
  obtain ⟨a9, e9, rfl⟩ := own_slice hX.own.gr.row
  have HX := Lib.hid hX
  obtain ⟨i, hi⟩ : ∃ i, Hid (i = L.length - r2.length) := ⟨_, rfl⟩
  have c0 : wr.cell? ⟨g, 0, none⟩ = some (.slice va L.length vc) := hX.prs.par.cel.cell 0
  have c1 : wr.cell? ⟨g, 1, none⟩ = some (.int .i64 (i : Int)) := by rw [hi.out]; exact hX.prs.par.cel.cell 1
  have hle := hX.prs.par.le
  clear hX
  by_cases h0 : r2.length = 0
  · have hl1 : ¬ (i : Int) < (L.length : Int) := by rw [hi.out]; omega
    go_wp2_with fail
    go_quiet (fail)
    rename_i nq
    have hS9 : Since wr (wr.drewN nq) := (Since.refl wr).drewN nq
    replace HX := Lib.hid (HX.out.next hS9)
    generalize wr.drewN nq = wd at *
    clear c0 c1 hS9 nq
    have HR3 : Hid (R = .ok st2.p) := by show _ = _; rw [HR2.out, polG_step, if_pos h0]; rfl
    have k3 : wd.cell? ⟨g, 3, none⟩ = some (.slice a3 st2.p.pr.length e3) := HX.out.prs.par.cel.cell 3
    have k4 : wd.cell? ⟨g, 4, none⟩ = some (.slice a4 st2.p.pd.length e4) := HX.out.prs.par.cel.cell 4
    have k5 : wd.cell? ⟨g, 5, none⟩ = some (.slice a5 C2.length e5) := HX.out.prs.par.cel.cell 5
    have k6 : wd.cell? ⟨g, 6, none⟩ = some (.int .i64 st2.p.qu) := HX.out.prs.par.cel.cell 6
    have k7 : wd.cell? ⟨g, 7, none⟩ = some (.int .i64 st2.p.bu) := HX.out.prs.par.cel.cell 7
    have k8 : wd.cell? ⟨g, 8, none⟩ = some (.slice a8 U2.length e8) := HX.out.prs.par.cel.cell 8
    have k9 : wd.cell? ⟨g, 9, none⟩ = some (.slice a9 G2.length e9) := HX.out.prs.par.cel.cell 9
    have hPr := HP.out.next HX.out.prs.sin
    have hone : Hid (((#[.slice a3 st2.p.pr.length e3, .slice a4 st2.p.pd.length e4, .slice a5 C2.length e5, .int .i64 st2.p.qu, .int .i64 st2.p.bu, .slice a8 U2.length e8, .slice a9 G2.length e9] : Array Value).all (·.oneCell')) = true) := by show _ = _; simp [Value.oneCell']
    have hkk : Keep (fun b => b = pb) w0 (wd.setRow pb #[.slice a3 st2.p.pr.length e3, .slice a4 st2.p.pd.length e4, .slice a5 C2.length e5, .int .i64 st2.p.qu, .int .i64 st2.p.bu, .slice a8 U2.length e8, .slice a9 G2.length e9]) := (Keep.of_since (Z := fun b => b = pb) HX.out.prs.sin).trans (row_setRow hPr) (fun _ h => .inl h)
    have hgt : PolGot pb w0.heap.size st2.p (wd.setRow pb #[.slice a3 st2.p.pr.length e3, .slice a4 st2.p.pd.length e4, .slice a5 C2.length e5, .int .i64 st2.p.qu, .int .i64 st2.p.bu, .slice a8 U2.length e8, .slice a9 G2.length e9]) := ⟨_, _, _, _, _, _, _, _, _, _, hPr.row _, HX.out.own.keep (row_setRow hPr) (fun b hb => by rw [hb]; exact hpb)⟩
    have hfin := Lib.hid (hgood.out _ _ HR3.out hkk hgt)
    have hi2 : wd.heap[pb]? = some (.cells cs0 29 (0, 0)) := hPr
    clear hPr HX HP hkk hgt hle HR2 HR3 hi
    go_wp2_with (refine wpList_store_row rfl 29 (.tmp 1) (.tmp 18) rfl pb #[.slice a3 st2.p.pr.length e3, .slice a4 st2.p.pd.length e4, .slice a5 C2.length e5, .int .i64 st2.p.qu, .int .i64 st2.p.bu, .slice a8 U2.length e8, .slice a9 G2.length e9] rfl rfl 29 cs0 hi2 polinfoC hcs hone.out ?_)
    go_end0
    exact hfin.out
  · have hl1 : (i : Int) < (L.length : Int) := by rw [hi.out]; omega
    go_wp2_with fail
    go_quiet (fail)
    rename_i nq
    have hS9 : Since wr (wr.drewN nq) := (Since.refl wr).drewN nq
    replace HX := Lib.hid (HX.out.next hS9)
    generalize wr.drewN nq = wd at *
    clear c0 c1 hS9 nq
    have HC := Lib.hid (pstmt_any r2 wd HX.out)
    have hR1 := HR2.out
    rw [polG_step, if_neg h0] at hR1
    have HR := Lib.hid hR1
    have HLT := Lib.hid (fun st1 r1 (e : stmtT st2 r2 = .ok (st1, r1)) => stmtT_eats.len e)
    clear HX hR1 HR2 hi hle
    cases hc : stmtT st2 r2 with
    | error x =>
      obtain ⟨k1, er⟩ := x
      have hH := HC.out
      rw [hc] at hH
      have HC2 : Hid (Calls Tryz.prog 38 #[.pointer (some ⟨g, 0, none⟩)] wd fun e w' => e = .panicked [FlawE (placeK L n k1) er] ∧ Since w0 w') := hH
      have hR1 := HR.out
      rw [hc] at hR1
      have HR1 : Hid (R = .error (k1, er)) := hR1
      clear HC hH hR1 HR hc hgood HLT
      go_wp2_with fail
      refine HC2.out.mono ?_
      rintro e wz ⟨rfl, hk⟩
      go_wp2_with fail
      exact ⟨rfl, hbad.out _ _ _ HR1.out hk⟩
    | ok x =>
      obtain ⟨st1, r1⟩ := x
      have hH := HC.out
      rw [hc] at hH
      have HC2 : Hid (Calls Tryz.prog 38 #[.pointer (some ⟨g, 0, none⟩)] wd fun e w' => e = .returned (.tuple #[]) ∧ St w0 g (.slice va L.length vc) L n st1 r1 w') := hH
      have hR1 := HR.out
      rw [hc] at hR1
      simp only at hR1
      replace HR := Lib.hid hR1
      have hlt := Lib.hid (HLT.out _ _ hc)
      clear HC hH hR1 hc HLT
      go_wp2_with fail
      refine HC2.out.mono ?_
      rintro e w9 ⟨rfl, hst⟩
      clear HC2
      go_wp2_with fail
      go_roundg r1.length
      case measure => exact hlt.out
      case rel => exact ⟨st1, r1, rfl, HR, hst⟩
theorem POwn.base {W : World} {D D' : Nat} {c3 c4 c5 c6 c7 c8 c9 : Value} {P : Pol} {C : List (Clr × Value)} {U : List (Rul × Value)} {G : List (Grn × Value)} (h : POwn W D c3 c4 c5 c6 c7 c8 c9 P C U G) (hd : D' ≤ D) : POwn W D' c3 c4 c5 c6 c7 c8 c9 P C U G :=
  ⟨own_base h.pr hd, own_base h.pd hd, ⟨own_base h.cl.row hd, fun p hp => own_base (h.cl.ins p hp) hd, h.cl.apart⟩, ⟨own_base h.ru.row hd, fun p hp => own_base (h.ru.ins p hp) hd, h.ru.apart⟩, ⟨own_base h.gr.row hd, fun p hp => own_base (h.gr.ins p hp) hd, h.gr.apart⟩, h.eC, h.eU, h.eG, h.qu, h.bu, h.aC, h.aU⟩
theorem POwn.setRow {W : World} {D pb : Nat} {cs ds : Array Value} {c3 c4 c5 c6 c7 c8 c9 : Value} {P : Pol} {C : List (Clr × Value)} {U : List (Rul × Value)} {G : List (Grn × Value)} (h : POwn W D c3 c4 c5 c6 c7 c8 c9 P C U G) (hc : Cel W pb cs 29) : POwn (W.setRow pb ds) D c3 c4 c5 c6 c7 c8 c9 P C U G := by
  have key : ∀ {e : TypeId} {K m : Nat} {v : Value} {xs : List Value}, W.ownsRow D e K v m xs → e ≠ 29 → (W.setRow pb ds).ownsRow D e K v m xs := fun hr he => own_setRow hr hc he
  exact ⟨key h.pr (by decide), key h.pd (by decide), ⟨key h.cl.row (by decide), fun p hp => key (h.cl.ins p hp) (by decide), h.cl.apart⟩, ⟨key h.ru.row (by decide), fun p hp => key (h.ru.ins p hp) (by decide), h.ru.apart⟩, ⟨key h.gr.row (by decide), fun p hp => key (h.gr.ins p hp) (by decide), h.gr.apart⟩, h.eC, h.eU, h.eG, h.qu, h.bu, h.aC, h.aU⟩
/-- What Policy answers: a policy in rows of the call's own, a place, an error. -/
def PolPost (s : Txt) (w : World) (e : Ending) (w' : World) : Prop := ∃ c3 c4 c5 c6 c7 c8 c9 C U G, e = .returned (.tuple #[.agg #[c3, c4, c5, c6, c7, c8, c9], .int .i64 ((policyL s).2.1 : Int), .int .i64 (policyL s).2.2]) ∧ POwn w' w.heap.size c3 c4 c5 c6 c7 c8 c9 (policyL s).1 C U G ∧ Since w w'
set_option maxHeartbeats 4000000 in
set_option maxRecDepth 100000 in
theorem policy_any (s : Txt) (hs : s.length ≤ maxLen) (w : World) (hE : EnvT w) : Calls Tryz.prog 11 #[.string ⟨s.toArray⟩] w (PolPost s w) := by
  have hmf : ∀ (fn : Fn) (first cap : Array Value) (w : World), (Instr.makeFunc fn first cap).run Tryz.prog w = .ok (.func fn first cap) w := fun _ _ _ _ => rfl
  have hS1 : Since w (w.alloc (.cells #[nilS, nilS, nilS, .int .i64 0, .int .i64 0, nilS, nilS] 29)) := (Since.refl w).alloc _
  have hC1 : Cel (w.alloc (.cells #[nilS, nilS, nilS, .int .i64 0, .int .i64 0, nilS, nilS] 29)) w.heap.size #[nilS, nilS, nilS, .int .i64 0, .int .i64 0, nilS, nilS] 29 := heap_alloc_new w _
  have HG : Hid (Calls Tryz.prog 36 #[.string ⟨s.toArray⟩, .func (.func 37) #[] #[.pointer (some ⟨w.heap.size, 0, none⟩)]] (w.alloc (.cells #[nilS, nilS, nilS, .int .i64 0, .int .i64 0, nilS, nilS] 29)) fun e w' => e = .returned (.tuple #[.int .i64 ((policyL s).2.1 : Int), .int .i64 (policyL s).2.2]) ∧ (∃ c3 c4 c5 c6 c7 c8 c9 C U G, Cel w' w.heap.size #[c3, c4, c5, c6, c7, c8, c9] 29 ∧ POwn w' w.heap.size c3 c4 c5 c6 c7 c8 c9 (policyL s).1 C U G) ∧ Since w w') := by
    refine (guarded_any s hs 37 #[.pointer (some ⟨w.heap.size, 0, none⟩)] (fun _ _ => (by kernel_rfl)) (w.alloc (.cells #[nilS, nilS, nilS, .int .i64 0, .int .i64 0, nilS, nilS] 29)) (hE.next hS1) w.heap.size hC1.lt (fun ts => (polG pst0 ts).map (·.p)) (fun D P W => PolGot w.heap.size D P W) ?_ ?_).mono ?_
    · rintro D P W W' ⟨c3, c4, c5, c6, c7, c8, c9, C, U, G, h1, h2⟩ hk
      have hsz : (w.alloc (.cells #[nilS, nilS, nilS, .int .i64 0, .int .i64 0, nilS, nilS] 29)).heap.size = w.heap.size + 1 := by simp
      exact ⟨c3, c4, c5, c6, c7, c8, c9, C, U, G, hk.cel h1 (fun h => by have := h.1; rw [hsz] at this; omega), h2.keep hk (fun b hb => hb.2)⟩
    · intro W4 W g lv b hS hX
      exact policy1_any w.heap.size pst0 _ W #[nilS, nilS, nilS, .int .i64 0, .int .i64 0, nilS, nilS] (Nat.lt_of_lt_of_le hC1.lt hS.size) rfl (hC1.next hS) ⟨_, _, _, _, _, _, _, _, _, _, _, _, _, hX⟩
    · intro e w' h
      unfold GOut at h
      unfold policyL
      have hz : ∀ W, Since (w.alloc (.cells #[nilS, nilS, nilS, .int .i64 0, .int .i64 0, nilS, nilS] 29)) W → (∃ c3 c4 c5 c6 c7 c8 c9 C U G, Cel W w.heap.size #[c3, c4, c5, c6, c7, c8, c9] 29 ∧ POwn W w.heap.size c3 c4 c5 c6 c7 c8 c9 pol0 C U G) ∧ Since w W := fun W hW => ⟨⟨_, _, _, _, _, _, _, _, _, _, hC1.next hW, POwn.nil _ _⟩, hS1.trans hW⟩
      by_cases h0 : (allL s).2.2 = 0
      · rw [if_pos h0] at h ⊢
        have hp : polG pst0 (txtsK (allL s).1) = polT (txtsK (allL s).1) := rfl
        simp only at h
        rw [hp] at h
        cases hq : polT (txtsK (allL s).1) with
        | error x =>
          obtain ⟨k, er⟩ := x
          rw [hq] at h
          obtain ⟨h1, h2⟩ := h
          exact ⟨h1, hz _ h2⟩
        | ok st =>
          rw [hq] at h
          obtain ⟨h1, h2, D, h3, c3, c4, c5, c6, c7, c8, c9, C, U, G, h4, h5⟩ := h
          refine ⟨h1, ⟨c3, c4, c5, c6, c7, c8, c9, C, U, G, h4, h5.base (Nat.le_trans hS1.size h3)⟩, h2.since hS1 (fun x hx => by rw [hx]; exact Nat.le_refl _)⟩
      · rw [if_neg h0] at h ⊢
        exact ⟨h.1, hz _ h.2⟩
  obtain ⟨A, hA⟩ : ∃ A, Hid (A = (policyL s).2.1) := ⟨_, rfl⟩
  obtain ⟨B, hB⟩ : ∃ B, Hid (B = (policyL s).2.2) := ⟨_, rfl⟩
  obtain ⟨P, hP⟩ : ∃ P, Hid (P = (policyL s).1) := ⟨_, rfl⟩
  obtain ⟨K, hK⟩ : ∃ K : Ending → World → Prop, Hid (K = PolPost s w) := ⟨_, rfl⟩
  have hgood : Hid (∀ w' c3 c4 c5 c6 c7 c8 c9 C U G, POwn w' w.heap.size c3 c4 c5 c6 c7 c8 c9 P C U G → Since w w' → K (.returned (.tuple #[.agg #[c3, c4, c5, c6, c7, c8, c9], .int .i64 (A : Int), .int .i64 B])) w') := by
    intro w' c3 c4 c5 c6 c7 c8 c9 C U G h1 h2
    rw [hK.out]
    refine ⟨c3, c4, c5, c6, c7, c8, c9, C, U, G, by rw [hA.out, hB.out], by rw [← hP.out]; exact h1, h2⟩
  rw [← hK.out]
  rw [← hA.out, ← hB.out, ← hP.out] at HG
  clear hA hB hP hK hC1 hS1 hE
  go_enter Tryz.func11, Tryz.ntmps11
  go_wp2_with fail
  refine HG.out.mono ?_
  rintro e w2 ⟨rfl, ⟨c3, c4, c5, c6, c7, c8, c9, C, U, G, hC, hO⟩, hS⟩
  obtain ⟨a3, e3, rfl⟩ := own_slice hO.pr
  obtain ⟨a4, e4, rfl⟩ := own_slice hO.pd
  obtain ⟨a5, e5, rfl⟩ := own_slice hO.cl.row
  obtain rfl := hO.qu
  obtain rfl := hO.bu
  obtain ⟨a8, e8, rfl⟩ := own_slice hO.ru.row
  obtain ⟨a9, e9, rfl⟩ := own_slice hO.gr.row
  have k0 := hC.cell 0
  have k1 := hC.cell 1
  have k2 := hC.cell 2
  have k3 := hC.cell 3
  have k4 := hC.cell 4
  have k5 := hC.cell 5
  have k6 := hC.cell 6
  obtain ⟨pb, hpb⟩ : ∃ x, Hid (x = w.heap.size) := ⟨_, rfl⟩
  have hone : Hid (((#[.slice a3 P.pr.length e3, .slice a4 P.pd.length e4, .slice a5 C.length e5, .int .i64 P.qu, .int .i64 P.bu, .slice a8 U.length e8, .slice a9 G.length e9] : Array Value).all (·.oneCell')) = true) := by show _ = _; simp [Value.oneCell']
  have hi2 : w2.heap[w.heap.size]? = some (.cells #[.slice a3 P.pr.length e3, .slice a4 P.pd.length e4, .slice a5 C.length e5, .int .i64 P.qu, .int .i64 P.bu, .slice a8 U.length e8, .slice a9 G.length e9] 29 (0, 0)) := hC
  have hN := hC.row #[.slice a3 P.pr.length e3, .slice a4 P.pd.length e4, .slice a5 C.length e5, .int .i64 P.qu, .int .i64 P.bu, .slice a8 U.length e8, .slice a9 G.length e9]
  have hf := Lib.hid (hgood.out (w2.setRow w.heap.size #[.slice a3 P.pr.length e3, .slice a4 P.pd.length e4, .slice a5 C.length e5, .int .i64 P.qu, .int .i64 P.bu, .slice a8 U.length e8, .slice a9 G.length e9]) _ _ _ _ _ _ _ _ _ _ (hO.setRow hC) ((row_setRow hC).since hS (fun x hx => by rw [hx]; exact Nat.le_refl _)))
  clear HG hC hO hS hpb
  go_wp2_with (refine wpList_store_row rfl 29 (.tmp 2) (.tmp 11) rfl w.heap.size #[.slice a3 P.pr.length e3, .slice a4 P.pd.length e4, .slice a5 C.length e5, .int .i64 P.qu, .int .i64 P.bu, .slice a8 U.length e8, .slice a9 G.length e9] rfl rfl 29 #[.slice a3 P.pr.length e3, .slice a4 P.pd.length e4, .slice a5 C.length e5, .int .i64 P.qu, .int .i64 P.bu, .slice a8 U.length e8, .slice a9 G.length e9] hi2 polinfoC rfl hone.out ?_)
  have q0 := hN.cell 0
  have q1 := hN.cell 1
  have q2 := hN.cell 2
  have q3 := hN.cell 3
  have q4 := hN.cell 4
  have q5 := hN.cell 5
  have q6 := hN.cell 6
  generalize w2.setRow w.heap.size #[.slice a3 P.pr.length e3, .slice a4 P.pd.length e4, .slice a5 C.length e5, .int .i64 P.qu, .int .i64 P.bu, .slice a8 U.length e8, .slice a9 G.length e9] = wq at *
  refine bodyPost_ret (v := .tuple #[.agg #[.slice a3 P.pr.length e3, .slice a4 P.pd.length e4, .slice a5 C.length e5, .int .i64 P.qu, .int .i64 P.bu, .slice a8 U.length e8, .slice a9 G.length e9], .int .i64 (A : Int), .int .i64 B]) ?_ rfl hf.out
  clear hf hN k0 k1 k2 k3 k4 k5 k6 hi2 hone hgood
  simp at q0 q1 q2 q3 q4 q5 q6
  simp [results, Tryz.results11, go_sem, q0, q1, q2, q3, q4, q5, q6]
end Go.Proofs.YtnfjjckbgnieeaaGreatDoor
