/- TableWaits: the walk. -/
import Derived.Test.YtbgdljcgbhhfdaaDoorTabP
namespace Go.Proofs.YtbgdljcgbhhfdaaDoor
open Go.RowKit Go.Maps Go.WideMaps
attribute [local go_sem ↓] run_atomEq
attribute [local go_sem] eqA_self

set_option maxHeartbeats 1000000 in
set_option maxRecDepth 100000 in
theorem neqg_same {o : Oper} {x y : Operand} {ev : Operand → Value} (a_s a_p : List UInt8) (a_n : Int) (a_v0 a_v1 a_v2 a_v3 : Bool) (a_l0 a_l1 a_l2 a_l3 : List UInt8) (ho : o.op = Op.binOp .neq 34 x y 34) (hx : ev x = .agg #[.string ⟨a_s.toArray⟩, .string ⟨a_p.toArray⟩, .int .i64 a_n, .bool a_v0, .string ⟨a_l0.toArray⟩, .bool a_v1, .string ⟨a_l1.toArray⟩, .bool a_v2, .string ⟨a_l2.toArray⟩, .bool a_v3, .string ⟨a_l3.toArray⟩]) (hy : ev y = .agg #[.string ⟨a_s.toArray⟩, .string ⟨a_p.toArray⟩, .int .i64 a_n, .bool a_v0, .string ⟨a_l0.toArray⟩, .bool a_v1, .string ⟨a_l1.toArray⟩, .bool a_v2, .string ⟨a_l2.toArray⟩, .bool a_v3, .string ⟨a_l3.toArray⟩]) (W : World) :
    (execOp ev o).run Tryd.prog W = .ok (.value (.bool false)) W := by
  simp only [execOp, ho]
  go_simp
theorem tdiv7 {x : Int} (h1 : -9223372036854775808 ≤ x) (h2 : x ≤ 9223372036854775807) : -9223372036854775808 ≤ x.tdiv 7 ∧ x.tdiv 7 ≤ 9223372036854775807 := by
  rcases Int.le_total 0 x with h | h
  · rw [Int.tdiv_eq_ediv_of_nonneg h]; omega
  · obtain ⟨y, rfl⟩ : ∃ y, x = -y := ⟨-x, by omega⟩
    rw [Int.neg_tdiv, Int.tdiv_eq_ediv_of_nonneg (by omega)]; omega
theorem cnt_zero {S : List TCall} (h : ∀ c ∈ S, c.2.1 = []) : cntS S = 0 := by
  unfold cntS
  induction S with
  | nil => rfl
  | cons c r ih =>
    rw [List.map_cons, List.sum_cons, ih (fun d hd => h d (List.mem_cons_of_mem _ hd)), h c List.mem_cons_self]
    rfl
set_option maxHeartbeats 0 in
set_option maxRecDepth 100000 in
theorem waits_any (va : Option Addr) (lc : Nat) (L : List Atm) (vw : Option Addr) (wc : Nat) (Wh : List Int) (w : World) (hv : ARow w (.slice va L.length lc) L) (hw : IRow w (.slice vw Wh.length wc) Wh) (hF : ∀ a ∈ L, FitsN a) (hI : ∀ y ∈ Wh, -9223372036854775808 ≤ y ∧ y ≤ 9223372036854775807) (hE : Env w) :
    Calls Tryd.prog 4 #[.slice va L.length lc, .slice vw Wh.length wc] w fun e w' => e = .returned (.bool true) ∧ Since w w' := by
  obtain ⟨i5, hi, hz0, hz1, hz2⟩ := info_parts ints_info
  have I5 := Lib.hid (And.intro hi (And.intro hz0 (And.intro hz1 hz2)))
  clear hi hz0 hz1 hz2
  obtain ⟨i3, hi, hz0, hz1, hz2⟩ := info_parts info_ints
  have I3 := Lib.hid (And.intro hi (And.intro hz0 (And.intro hz1 hz2)))
  clear hi hz0 hz1 hz2
  have HE := Lib.hid hE
  have HV := Lib.hid hv
  have HW := Lib.hid hw
  have HF := Lib.hid hF
  have HI := Lib.hid hI
  obtain ⟨LA, hLA⟩ : ∃ B, Hid (B = lightAs 20 L) := ⟨_, rfl⟩
  have H1 := Lib.hid (fun W (h : Since w W) => lightatoms_any _ 20 L W (anext HV.out h) (by decide))
  rw [← hLA.out] at H1
  clear hE hv hw hF hI
  go_enter Tryd.func4, Tryd.ntmps4
  go_wp2_with fail
  refine (lives18_any _ HE.out).mono ?_
  rintro e w2 ⟨rfl, hb2⟩
  cases LA
  · go_wp2_with fail
    refine (H1.out _ hb2).mono ?_
    rintro e w3 ⟨rfl, hb3⟩
    go_wp2_with fail
    go_ret
    exact ⟨rfl, hb2.trans hb3⟩
  have hlen : Hid (L.length ≤ 20) := by show _ ≤ _; have := (lightAs_of hLA.out.symm).1; omega
  by_cases hw40 : (40 : Int) < (Wh.length : Int)
  · go_wp2_with fail
    refine (H1.out _ hb2).mono ?_
    rintro e w3 ⟨rfl, hb3⟩
    go_wp2_with fail
    go_ret
    exact ⟨rfl, hb2.trans hb3⟩
  go_wp2_with fail
  refine (H1.out _ hb2).mono ?_
  rintro e w3 ⟨rfl, hb3⟩
  have hS3 := hb2.trans hb3
  clear H1 hLA hb2 hb3
  go_wp2_with fail
  refine (tnew_t _).mono ?_
  rintro e w4 ⟨g, rfl, ⟨Z0, hT0⟩, hb4⟩
  obtain ⟨B, hB0⟩ : ∃ B, Hid (w3.heap.size = B) := ⟨_, rfl⟩
  have HB : Hid (w.heap.size ≤ B) := by show _ ≤ _; rw [← hB0.out]; exact hS3.size
  rw [hB0.out] at hT0
  have hS4 := hS3.trans hb4
  clear hb4 hB0 hS3
  go_wp2_with fail
  go_loopw [6] (fun i wr => ∃ (k : Nat) (S : List TCall) (Z : Nat → Prop), k ≤ L.length ∧ i = .int .i64 (k : Int) ∧ Since w wr ∧ Tab wr B g Z S ∧ S.length ≤ k ∧ Hid (∀ c ∈ S, canA c.1 = c.1 ∧ c.2.1 = [] ∧ c.2.2 = [])) (fun i _ => L.length - (intOf i).toNat)
  case atStart => exact ⟨0, [], Z0, by omega, rfl, hS4, hT0, Nat.zero_le _, fun c hc => by cases hc⟩
  case round =>
  rename World => wo
  clear hT0 hS4
  obtain ⟨k, S, Z, hk, rfl, hS, hT, hSk, hok⟩ := hrel
  by_cases hlt : k < L.length
  · have hlt2 : (k : Int) < (L.length : Int) := by omega
    have hlt0 : (0 : Int) ≤ (k : Int) := by omega
    have hl40 : L.length ≤ 20 := hlen.out
    obtain ⟨b, ob, rfl, hc, hat⟩ := HV.out.get (by omega)
    have HD0 := Lib.hid (hat k hlt)
    have hfx := HF.out _ (List.getElem_mem hlt)
    obtain ⟨x, hx⟩ : ∃ x, Hid (x = L[k]) := ⟨L[k], rfl⟩
    rw [← hx.out] at HD0 hfx
    obtain ⟨x_s, x_p, x_n, ⟨x_v0, x_l0⟩, ⟨x_v1, x_l1⟩, ⟨x_v2, x_l2⟩, ⟨x_v3, x_l3⟩⟩ := x
    have HFX := Lib.hid hfx
    have d1 := HD0.out.next hS
    obtain ⟨x_c0, x_c1, x_c2, x_c3, x_c4, x_c5, x_c6, x_c7, x_c8, x_c9, x_c10⟩ := d1.all
    clear hat hx d1 hfx
    by_cases hk0 : checkA ((x_s, x_p, x_n, (x_v0, x_l0), (x_v1, x_l1), (x_v2, x_l2), (x_v3, x_l3)) : Atm) = 0
    case neg =>
      go_wp2_with fail
      refine (topen_bad x_s x_p x_n x_v0 x_v1 x_v2 x_v3 x_l0 x_l1 x_l2 x_l3 wo HFX.out (HE.out.next hS) hk0).mono ?_
      rintro e w5 ⟨rfl, hb5⟩
      clear x_c0 x_c1 x_c2 x_c3 x_c4 x_c5 x_c6 x_c7 x_c8 x_c9 x_c10
      go_wp2_with fail
      go_roundw
      case rel => exact ⟨k + 1, S, Z, by omega, by go_num, hS.trans hb5, hT.next hb5, by omega, hok⟩
      case measure => simp [intOf]; omega
    obtain ⟨⟨id, fr, S'⟩, hO⟩ : ∃ q, Hid (openS S ((x_s, x_p, x_n, (x_v0, x_l0), (x_v1, x_l1), (x_v2, x_l2), (x_v3, x_l3)) : Atm) = q) := ⟨_, rfl⟩
    have HOP := Lib.hid (topen_t x_s x_p x_n x_v0 x_v1 x_v2 x_v3 x_l0 x_l1 x_l2 x_l3 wo hT HFX.out (HE.out.next hS) hk0 (by omega) hO.out)
    have HNX : Hid (S'.length ≤ k + 1 ∧ ∀ c ∈ S', canA c.1 = c.1 ∧ c.2.1 = [] ∧ c.2.2 = []) := open_ok hO.out hSk hok.out
    clear hk0 hO
    go_wp2_with fail
    refine HOP.out.mono ?_
    rintro e w5 ⟨rfl, hop⟩
    obtain ⟨Z', hT5, hk5, hz5⟩ := hop.split
    have hS5 := hT.since hk5 hS HB.out
    clear hop hz5 hk5 hT hS HOP x_c0 x_c1 x_c2 x_c3 x_c4 x_c5 x_c6 x_c7 x_c8 x_c9 x_c10
    go_wp2_with fail
    go_roundw
    case rel => exact ⟨k + 1, S', Z', by omega, by go_num, hS5, hT5, HNX.out.1, HNX.out.2⟩
    case measure => simp [intOf]; omega
  have hlt2 : ¬ (k : Int) < (L.length : Int) := by omega
  have hn20 : S.length ≤ 20 := by have := hlen.out; omega
  obtain ⟨n, hn⟩ : ∃ n, Hid (S.length = n) := ⟨_, rfl⟩
  have HLN := Lib.hid (tlen_t wo hT)
  rw [hn.out] at HLN hn20
  clear hSk hk
  go_wp2_with fail
  refine HLN.out.mono ?_
  rintro e w10 ⟨rfl, hb10⟩
  replace hS := hS.trans hb10
  replace hT := hT.next hb10
  clear hb10 HLN hlt2
  go_wp2_with fail
  go_loopw [9, 8] (fun i v wr => ∃ q : Nat, q ≤ n ∧ i = .int .i64 (q : Int) ∧ Since w10 wr ∧ wr.ownsRow w10.heap.size 42 1 v q (List.replicate q nilR)) (fun i _ _ => n - (intOf i).toNat)
  case atStart => exact ⟨0, Nat.zero_le _, rfl, Since.refl _, World.ownsRow_nil _ _ _ _⟩
  case round =>
  rename World => w11
  obtain ⟨q, hq, rfl, hS11, hrow⟩ := hrel
  obtain ⟨sa, sc, rfl⟩ : ∃ a c, u8 = .slice a q c := own_slice hrow
  by_cases hqn : q < n
  · have hqn2 : (q : Int) < (n : Int) := by omega
    go_wp2_with (at_builtin; refine wpList_append_own_at _ rfl (.tmp 48) (.tmp 49) 43 rfl w10.heap.size 42 i5 (.slice none 0 0) 1 24 Tryd.underlying43 I5.out.1 I5.out.2.1 I5.out.2.2.1 I5.out.2.2.2 rfl (by decide) _ q (List.replicate q nilR) rfl (hrow.alloc _) ⟨w11.heap.size, 0, none⟩ 1 1 [nilR] rfl rfl (cell_one_new _ _ _) (by simp [Value.oneCell', nilR]) (by unfold maxLen; omega) (by omega) (by have := hS11.size; simp; omega) ?_; intro v9 w9 hown9 hg9 _ hat9; obtain ⟨a9, c9, k9⟩ : ∃ a k, v9 = .slice a (q + 1) k := own_slice hown9; subst k9; have hS12 : Since w10 w9 := Below.grown (hS11.alloc _) hg9 (hS11.alloc _).size (fun b hb => (hrow.lt b hb).1); rw [← List.replicate_succ'] at hown9; clear hg9 hat9)
    go_roundw
    case rel => exact ⟨q + 1, by omega, by go_num, hS12, hown9⟩
    case measure => simp [intOf]; omega
  have hqn2 : ¬ (q : Int) < (n : Int) := by omega
  obtain rfl : q = n := by omega
  have hW0 := want_nil hrow
  have hZ0 : WantOff Z (.slice sa q sc) (List.replicate q ([], nilR)) := ⟨fun b hb hz => by have h1 := (hT.low b hz).2; have h2 := (hrow.lt b hb).1; omega, fun p hp b hb => by rw [List.eq_of_mem_replicate hp] at hb; cases hb⟩
  have hM0 : (List.replicate q (([], nilR) : List Int × Value)).map Prod.fst = S.map (fun c => c.2.2) := by
    rw [List.map_replicate, eq_comm, List.eq_replicate_iff]
    refine ⟨by rw [List.length_map]; exact hn.out, fun l hl => ?_⟩
    obtain ⟨c, hc, rfl⟩ := List.mem_map.1 hl
    exact (hok.out c hc).2.2
  obtain ⟨D, hD0⟩ : ∃ D, Hid (w10.heap.size = D) := ⟨_, rfl⟩
  have HD : Hid (w.heap.size ≤ D) := by show _ ≤ _; rw [← hD0.out]; exact hS.size
  rw [hD0.out] at hW0
  have hX0 : WSt w w11 B g D q 0 (.slice sa q sc) := ⟨S, Z, _, hS.trans hS11, hT.next hS11, hW0, hZ0, hM0, hn.out, fun c hc => ⟨(hok.out c hc).1, (hok.out c hc).2.1, by rw [(hok.out c hc).2.2]; exact Nat.zero_le _⟩⟩
  clear hW0 hZ0 hM0 hD0 hrow hS11 hT hS hn hok hq hqn hlt hlen
  go_wp2_with fail
  go_loopw [10] (fun i wr => ∃ k : Nat, k ≤ Wh.length ∧ i = .int .i64 (k : Int) ∧ WSt w wr B g D q k (.slice sa q sc)) (fun i _ => Wh.length - (intOf i).toNat)
  case atStart => exact ⟨0, Nat.zero_le _, rfl, hX0⟩
  case round =>
  rename World => wp
  clear hX0
  obtain ⟨k, hk, rfl, hX⟩ := hrel
  by_cases hlt : k < Wh.length
  · have hlt2 : (k : Int) < (Wh.length : Int) := by omega
    have hlt0 : (0 : Int) ≤ (k : Int) := by omega
    have HX := Lib.hid hX
    obtain ⟨S, Z, Lw, hS, hT, hWa, hZo, hM, hn, hok⟩ := hX
    have HM := Lib.hid hM
    have HN := Lib.hid hn
    have HOK := Lib.hid hok
    obtain ⟨b, ob, rfl, hc, hat⟩ := HW.out.get (by omega)
    have hx0 := hat k hlt
    have hbx := HI.out _ (List.getElem_mem hlt)
    obtain ⟨x, hx⟩ : ∃ x, Hid (x = Wh[k]) := ⟨Wh[k], rfl⟩
    rw [← hx.out] at hx0 hbx
    have xA0 : At w b (ob + k) #[.int .i64 x] := At.one (by simpa [IntAt] using hx0)
    have c0 : wp.cell? ⟨b, ob + k, none⟩ = some (.int .i64 x) := hS.cell (by simpa [IntAt] using hx0)
    clear hat hx hx0 hM hn hok
    have hb7 : -9223372036854775808 ≤ x.tdiv 7 ∧ x.tdiv 7 ≤ 9223372036854775807 := tdiv7 hbx.1 hbx.2
    obtain ⟨id, hid⟩ : ∃ id : Nat, Hid (x.tdiv 7 % ((q : Int) + 1) = (id : Int)) := ⟨(x.tdiv 7 % ((q : Int) + 1)).toNat, by
      show _ = _
      have := Int.emod_nonneg (x.tdiv 7) (show ((q : Int) + 1) ≠ 0 by omega)
      omega⟩
    have hidq : id ≤ q := by
      have h1 := Int.emod_lt_of_pos (x.tdiv 7) (show (0 : Int) < (q : Int) + 1 by omega)
      rw [hid.out] at h1
      omega
    have HPK := Lib.hid (pick_any (x.tdiv 7) ((q : Int) + 1) wp hb7.1 hb7.2 (by omega) (by omega))
    rw [hid.out] at HPK
    clear hb7 hid
    go_wp2_with fail
    refine HPK.out.mono ?_
    rintro e w5 ⟨rfl, rfl⟩
    clear HPK
    by_cases hin : id < q
    case neg =>
      have hin2 : ¬ (id : Int) < (q : Int) := by omega
      go_wp2_with fail
      refine (tW_tn (id : Int) x wp hT (.inr (by rw [HN.out]; omega))).mono ?_
      rintro e w5 ⟨rfl, hb5⟩
      clear c0
      go_wp2_with fail
      go_roundw
      case rel => exact ⟨k + 1, by omega, by go_num, (HX.out.next hb5).more (by omega)⟩
      case measure => simp [intOf]; omega
    have hin2 : (id : Int) < (q : Int) := by omega
    have hidS : id < S.length := by rw [HN.out]; exact hin
    have hiL : id < Lw.length := by rw [want_same HM.out, HN.out]; exact hin
    have hlw : (S[id]).2.2.length ≤ k := (HOK.out _ (List.getElem_mem hidS)).2.2
    have HWA := Lib.hid (tW_t id x wp hT hidS (by omega))
    clear HX
    go_wp2_with fail
    refine HWA.out.mono ?_
    rintro e w5 ⟨rfl, hop⟩
    obtain ⟨Z', hT5, hk5, hz5⟩ := hop.split
    have hW5 := hWa.keep hk5 hZo
    have hZ5 := hZo.next hWa hz5
    have hS5 := hT.since hk5 hS HB.out
    clear hop hz5 hk5 hT hWa hZo hS HWA c0
    have hiO := hW5.inner hiL
    obtain ⟨wb, wcap, cur, e1, e2, e3, e4⟩ := hW5.at hiL
    obtain ⟨rfl, rfl⟩ : sa = some ⟨wb, 0, none⟩ ∧ sc = wcap := by
      injection e1 with k1 k2 k3
      exact ⟨k1, k3⟩
    clear e1
    have hDw : D ≤ w5.heap.size := Nat.le_trans e2 (Nat.le_of_lt e3.lt)
    rw [← want_row HM.out hiL hidS] at hlw
    have HWT : Hid (∀ (W Wa W3 : World) (v' : Value), Since w5 W → Since W Wa → Wa.grownBy W3 (Lw[id]).2.ownBlock → posF (Lw[id]).1 x 0 = none → W3.ownsRow D 3 1 v' ((Lw[id]).1.length + 1) ((Lw[id]).1.flatMap intV1 ++ [.int .i64 x]) → (v'.ownBlock = (Lw[id]).2.ownBlock ∨ v'.ownBlock = some Wa.heap.size) → WSt w (W3.setCell ⟨wb, 0 + id, none⟩ v') B g D q (k + 1) (.slice (some ⟨wb, 0, none⟩) q sc)) :=
      fun W Wa W3 v' y0 y1 y2 y3 y4 y5 => want_tail x id hidS (hT5.next y0) (hS5.trans y0) (hW5.next y0) hZ5 HM.out HN.out HOK.out y1 hiL rfl y2 y3 y4 y5 HD.out
    have HWS : Hid (∀ W : World, Since w5 W → (posF (Lw[id]).1 x 0).isSome = true → WSt w W B g D q (k + 1) (.slice (some ⟨wb, 0, none⟩) q sc)) :=
      fun W y0 y1 => want_there x id hidS (hT5.next y0) (hS5.trans y0) (hW5.next y0) hZ5 HM.out HN.out HOK.out hiL y1
    obtain ⟨l, hl⟩ : ∃ l, Hid (l = (Lw[id]).1) := ⟨(Lw[id]).1, rfl⟩
    obtain ⟨u, hu⟩ : ∃ u, Hid (u = (Lw[id]).2) := ⟨(Lw[id]).2, rfl⟩
    rw [← hl.out] at hlw
    rw [← hl.out, ← hu.out] at hiO
    simp only [← hl.out, ← hu.out] at HWT HWS
    rw [← hu.out] at e4
    have HGW : Hid (w.heap.size ≤ wb) := Nat.le_trans HD.out e2
    clear hl hu hT5 hW5 hZ5 HM HN HOK hidS hiL e2
    obtain ⟨ra, rc, rfl⟩ : ∃ a c, u = .slice a l.length c := own_slice hiO
    have hcell : w5.cell? ⟨wb, id, none⟩ = some (.slice ra l.length rc) := (e3.cell id).trans e4
    have HIR := Lib.hid (own_irow1 hiO)
    have HCU : Hid (cur[id]? = some (.slice ra l.length rc)) := e4
    have HE4 : Hid ((cur[0 + id]?).isSome = true) := by show _ = _; rw [Nat.zero_add, e4]; rfl
    have hid0 : (0 : Int) ≤ (id : Int) := by omega
    clear e4
    go_wp2_with fail
    go_loopw [14, 13] (fun m t wr => ∃ j : Nat, j ≤ l.length ∧ m = .int .i64 (j : Int) ∧ t = .bool (posF (l.take j) x 0).isSome ∧ Since w5 wr) (fun m _ _ => l.length - (intOf m).toNat)
    case atStart => exact ⟨0, Nat.zero_le _, rfl, rfl, Since.refl _⟩
    case round =>
    rename World => w8
    obtain ⟨j, hj, rfl, rfl, hS8⟩ := hrel
    have c8 := hS8.cell hcell
    obtain ⟨TT, hTT⟩ : ∃ t, Hid ((posF (l.take j) x 0).isSome = t) := ⟨_, rfl⟩
    rw [hTT.out]
    by_cases hjl : j < l.length
    · have hjl2 : (j : Int) < (l.length : Int) := by omega
      have hjl0 : (0 : Int) ≤ (j : Int) := by omega
      have hpm : Hid ((posF (l.take (j + 1)) x 0).isSome = (TT || (l[j] == x))) := by show _ = _; rw [pos_more hjl, hTT.out]
      obtain ⟨rb, ro, er, hcr, hatr⟩ := HIR.out.get (by omega)
      have t1 := hatr j hjl
      obtain ⟨z, hzq⟩ : ∃ z, Hid (z = l[j]) := ⟨l[j], rfl⟩
      rw [← hzq.out] at t1 hpm
      have rA0 : At w5 rb (ro + j) #[.int .i64 z] := At.one (by simpa [IntAt] using t1)
      go_wp2_with fail
      have rA := rA0.next hS8
      have tA : At w8 wb (0 + id) #[.slice ra l.length rc] := At.one (by rw [Nat.zero_add]; exact c8)
      have xA := xA0.next (hS5.trans hS8)
      subst er
      clear hatr t1 rA0 c8
      cases TT
      case true =>
        replace hS8 := hS8.trans ((Since.refl w8).drew)
        replace tA := tA.next ((Since.refl w8).drew)
        replace rA := rA.next ((Since.refl w8).drew)
        replace xA := xA.next ((Since.refl w8).drew)
        refine hx_begin (S := fun W => (Since w5 W) ∧ (At W wb (0 + id) #[.slice (some ⟨rb, ro, none⟩) l.length rc]) ∧ (At W rb (ro + j) #[.int .i64 z]) ∧ (At W b (ob + k) #[.int .i64 x])) (by kernel_rfl) ⟨hS8, tA, rA, xA⟩ (by kernel_rfl) (fun _ _ _ _ _ h => h) (fun hns hQ => ?_)
        refine hx_take (i := 0) (oi := _) (v := .bool true) rfl rfl hns (by kernel_rfl) (by kernel_rfl) hQ (by kernel_rfl) (fun _ _ => by kernel_rfl) ⟨hS8, tA, rA, xA⟩ ?_
        refine hx_take (i := 1) (oi := _) (v := .bool true) rfl rfl hns (by kernel_rfl) (by kernel_rfl) hQ (by kernel_rfl) (fun _ _ => by kernel_rfl) ⟨hS8, tA, rA, xA⟩ ?_
        refine hx_off (i := 2) (oi := _) rfl rfl hns (by kernel_rfl) (by kernel_rfl) hQ (by kernel_rfl) ⟨hS8, tA, rA, xA⟩ ?_
        refine hx_off (i := 3) (oi := _) rfl rfl hns (by kernel_rfl) (by kernel_rfl) hQ (by kernel_rfl) ⟨hS8, tA, rA, xA⟩ ?_
        refine hx_off (i := 4) (oi := _) rfl rfl hns (by kernel_rfl) (by kernel_rfl) hQ (by kernel_rfl) ⟨hS8, tA, rA, xA⟩ ?_
        refine hx_off (i := 5) (oi := _) rfl rfl hns (by kernel_rfl) (by kernel_rfl) hQ (by kernel_rfl) ⟨hS8, tA, rA, xA⟩ ?_
        refine hx_off (i := 6) (oi := _) rfl rfl hns (by kernel_rfl) (by kernel_rfl) hQ (by kernel_rfl) ⟨hS8, tA, rA, xA⟩ ?_
        refine hx_off (i := 7) (oi := _) rfl rfl hns (by kernel_rfl) (by kernel_rfl) hQ (by kernel_rfl) ⟨hS8, tA, rA, xA⟩ ?_
        refine hx_off (i := 8) (oi := _) rfl rfl hns (by kernel_rfl) (by kernel_rfl) hQ (by kernel_rfl) ⟨hS8, tA, rA, xA⟩ ?_
        refine hx_off (i := 9) (oi := _) rfl rfl hns (by kernel_rfl) (by kernel_rfl) hQ (by kernel_rfl) ⟨hS8, tA, rA, xA⟩ ?_
        refine hx_off (i := 10) (oi := _) rfl rfl hns (by kernel_rfl) (by kernel_rfl) hQ (by kernel_rfl) ⟨hS8, tA, rA, xA⟩ ?_
        refine hx_off (i := 11) (oi := _) rfl rfl hns (by kernel_rfl) (by kernel_rfl) hQ (by kernel_rfl) ⟨hS8, tA, rA, xA⟩ ?_
        refine hx_off (i := 12) (oi := _) rfl rfl hns (by kernel_rfl) (by kernel_rfl) hQ (by kernel_rfl) ⟨hS8, tA, rA, xA⟩ ?_
        refine hx_off (i := 13) (oi := _) rfl rfl hns (by kernel_rfl) (by kernel_rfl) hQ (by kernel_rfl) ⟨hS8, tA, rA, xA⟩ ?_
        refine hx_take (i := 14) (oi := _) (v := .bool true) rfl rfl hns (by kernel_rfl) (by kernel_rfl) hQ (by kernel_rfl) (fun _ _ => by kernel_rfl) ⟨hS8, tA, rA, xA⟩ ?_
        refine hx_take (i := 15) (oi := _) (v := .bool true) rfl rfl hns (by kernel_rfl) (by kernel_rfl) hQ (by kernel_rfl) (fun _ _ => by kernel_rfl) ⟨hS8, tA, rA, xA⟩ ?_
        refine wpAnyH_done (by kernel_rfl) ?_ _
        clear hns hQ
        simp only [List.set_cons_zero, List.set_cons_succ]
        clear rA tA xA
        go_wp2_with fail
        go_roundw
        case rel => exact ⟨j + 1, by omega, by go_num, by rw [hpm.out]; rfl, hS8⟩
        case measure => simp [intOf]; omega
      case false =>
        cases hq9 : (z == x)
        case true =>
          replace hS8 := hS8.trans ((Since.refl w8).drew)
          replace tA := tA.next ((Since.refl w8).drew)
          replace rA := rA.next ((Since.refl w8).drew)
          replace xA := xA.next ((Since.refl w8).drew)
          refine hx_begin (S := fun W => (Since w5 W) ∧ (At W wb (0 + id) #[.slice (some ⟨rb, ro, none⟩) l.length rc]) ∧ (At W rb (ro + j) #[.int .i64 z]) ∧ (At W b (ob + k) #[.int .i64 x])) (by kernel_rfl) ⟨hS8, tA, rA, xA⟩ (by kernel_rfl) (fun _ _ _ _ _ h => h) (fun hns hQ => ?_)
          refine hx_take (i := 0) (oi := _) (v := .bool false) rfl rfl hns (by kernel_rfl) (by kernel_rfl) hQ (by kernel_rfl) (fun _ _ => by kernel_rfl) ⟨hS8, tA, rA, xA⟩ ?_
          refine hx_take (i := 1) (oi := _) (v := .bool false) rfl rfl hns (by kernel_rfl) (by kernel_rfl) hQ (by kernel_rfl) (fun _ _ => by kernel_rfl) ⟨hS8, tA, rA, xA⟩ ?_
          refine hx_take (i := 2) (oi := _) (v := .slice (some ⟨wb, 0, none⟩) q sc) rfl rfl hns (by kernel_rfl) (by kernel_rfl) hQ (by kernel_rfl) (fun _ _ => by kernel_rfl) ⟨hS8, tA, rA, xA⟩ ?_
          refine hx_take (i := 3) (oi := _) (v := .int .i64 (id : Int)) rfl rfl hns (by kernel_rfl) (by kernel_rfl) hQ (by kernel_rfl) (fun _ _ => by kernel_rfl) ⟨hS8, tA, rA, xA⟩ ?_
          refine hx_take (i := 4) (oi := _) (v := .pointer (some ⟨wb, 0 + id, none⟩)) rfl rfl hns (by kernel_rfl) (by kernel_rfl) hQ (by kernel_rfl) (fun W _ => ix_sl1 (n := q) (c := sc) rfl (by kernel_rfl) (by kernel_rfl) (by kernel_rfl) rfl hin W) ⟨hS8, tA, rA, xA⟩ ?_
          refine hx_take (i := 5) (oi := _) (v := .slice (some ⟨rb, ro, none⟩) l.length rc) rfl rfl hns (by kernel_rfl) (by kernel_rfl) hQ (by kernel_rfl) (fun W hW => ld_one rfl (by kernel_rfl) (by kernel_rfl) W (hW.2.1 0 _ rfl)) ⟨hS8, tA, rA, xA⟩ ?_
          refine hx_take (i := 6) (oi := _) (v := .int .i64 (j : Int)) rfl rfl hns (by kernel_rfl) (by kernel_rfl) hQ (by kernel_rfl) (fun _ _ => by kernel_rfl) ⟨hS8, tA, rA, xA⟩ ?_
          refine hx_take (i := 7) (oi := _) (v := .pointer (some ⟨rb, ro + j, none⟩)) rfl rfl hns (by kernel_rfl) (by kernel_rfl) hQ (by kernel_rfl) (fun W _ => ix_sl1 (n := l.length) (c := rc) rfl (by kernel_rfl) (by kernel_rfl) (by kernel_rfl) rfl hjl W) ⟨hS8, tA, rA, xA⟩ ?_
          refine hx_take (i := 8) (oi := _) (v := .int .i64 z) rfl rfl hns (by kernel_rfl) (by kernel_rfl) hQ (by kernel_rfl) (fun W hW => ld_one rfl (by kernel_rfl) (by kernel_rfl) W (hW.2.2.1 0 _ rfl)) ⟨hS8, tA, rA, xA⟩ ?_
          refine hx_take (i := 9) (oi := _) (v := .slice (some ⟨b, ob, none⟩) Wh.length wc) rfl rfl hns (by kernel_rfl) (by kernel_rfl) hQ (by kernel_rfl) (fun _ _ => by kernel_rfl) ⟨hS8, tA, rA, xA⟩ ?_
          refine hx_take (i := 10) (oi := _) (v := .int .i64 (k : Int)) rfl rfl hns (by kernel_rfl) (by kernel_rfl) hQ (by kernel_rfl) (fun _ _ => by kernel_rfl) ⟨hS8, tA, rA, xA⟩ ?_
          refine hx_take (i := 11) (oi := _) (v := .pointer (some ⟨b, ob + k, none⟩)) rfl rfl hns (by kernel_rfl) (by kernel_rfl) hQ (by kernel_rfl) (fun W _ => ix_sl1 (n := Wh.length) (c := wc) rfl (by kernel_rfl) (by kernel_rfl) (by kernel_rfl) rfl hlt W) ⟨hS8, tA, rA, xA⟩ ?_
          refine hx_take (i := 12) (oi := _) (v := .int .i64 x) rfl rfl hns (by kernel_rfl) (by kernel_rfl) hQ (by kernel_rfl) (fun W hW => ld_one rfl (by kernel_rfl) (by kernel_rfl) W (hW.2.2.2 0 _ rfl)) ⟨hS8, tA, rA, xA⟩ ?_
          refine hx_take (i := 13) (oi := _) (v := .bool true) rfl rfl hns (by kernel_rfl) (by kernel_rfl) hQ (by kernel_rfl) (fun W _ => bin_valT (eql_int rfl (by kernel_rfl) (by kernel_rfl) W) hq9) ⟨hS8, tA, rA, xA⟩ ?_
          refine hx_take (i := 14) (oi := _) (v := .bool true) rfl rfl hns (by kernel_rfl) (by kernel_rfl) hQ (by kernel_rfl) (fun _ _ => by kernel_rfl) ⟨hS8, tA, rA, xA⟩ ?_
          refine hx_take (i := 15) (oi := _) (v := .bool true) rfl rfl hns (by kernel_rfl) (by kernel_rfl) hQ (by kernel_rfl) (fun _ _ => by kernel_rfl) ⟨hS8, tA, rA, xA⟩ ?_
          refine wpAnyH_done (by kernel_rfl) ?_ _
          clear hns hQ
          simp only [List.set_cons_zero, List.set_cons_succ]
          clear rA tA xA
          go_wp2_with fail
          go_roundw
          case rel => exact ⟨j + 1, by omega, by go_num, by rw [hpm.out, hq9]; rfl, hS8⟩
          case measure => simp [intOf]; omega
        case false =>
          replace hS8 := hS8.trans ((Since.refl w8).drew)
          replace tA := tA.next ((Since.refl w8).drew)
          replace rA := rA.next ((Since.refl w8).drew)
          replace xA := xA.next ((Since.refl w8).drew)
          refine hx_begin (S := fun W => (Since w5 W) ∧ (At W wb (0 + id) #[.slice (some ⟨rb, ro, none⟩) l.length rc]) ∧ (At W rb (ro + j) #[.int .i64 z]) ∧ (At W b (ob + k) #[.int .i64 x])) (by kernel_rfl) ⟨hS8, tA, rA, xA⟩ (by kernel_rfl) (fun _ _ _ _ _ h => h) (fun hns hQ => ?_)
          refine hx_take (i := 0) (oi := _) (v := .bool false) rfl rfl hns (by kernel_rfl) (by kernel_rfl) hQ (by kernel_rfl) (fun _ _ => by kernel_rfl) ⟨hS8, tA, rA, xA⟩ ?_
          refine hx_take (i := 1) (oi := _) (v := .bool false) rfl rfl hns (by kernel_rfl) (by kernel_rfl) hQ (by kernel_rfl) (fun _ _ => by kernel_rfl) ⟨hS8, tA, rA, xA⟩ ?_
          refine hx_take (i := 2) (oi := _) (v := .slice (some ⟨wb, 0, none⟩) q sc) rfl rfl hns (by kernel_rfl) (by kernel_rfl) hQ (by kernel_rfl) (fun _ _ => by kernel_rfl) ⟨hS8, tA, rA, xA⟩ ?_
          refine hx_take (i := 3) (oi := _) (v := .int .i64 (id : Int)) rfl rfl hns (by kernel_rfl) (by kernel_rfl) hQ (by kernel_rfl) (fun _ _ => by kernel_rfl) ⟨hS8, tA, rA, xA⟩ ?_
          refine hx_take (i := 4) (oi := _) (v := .pointer (some ⟨wb, 0 + id, none⟩)) rfl rfl hns (by kernel_rfl) (by kernel_rfl) hQ (by kernel_rfl) (fun W _ => ix_sl1 (n := q) (c := sc) rfl (by kernel_rfl) (by kernel_rfl) (by kernel_rfl) rfl hin W) ⟨hS8, tA, rA, xA⟩ ?_
          refine hx_take (i := 5) (oi := _) (v := .slice (some ⟨rb, ro, none⟩) l.length rc) rfl rfl hns (by kernel_rfl) (by kernel_rfl) hQ (by kernel_rfl) (fun W hW => ld_one rfl (by kernel_rfl) (by kernel_rfl) W (hW.2.1 0 _ rfl)) ⟨hS8, tA, rA, xA⟩ ?_
          refine hx_take (i := 6) (oi := _) (v := .int .i64 (j : Int)) rfl rfl hns (by kernel_rfl) (by kernel_rfl) hQ (by kernel_rfl) (fun _ _ => by kernel_rfl) ⟨hS8, tA, rA, xA⟩ ?_
          refine hx_take (i := 7) (oi := _) (v := .pointer (some ⟨rb, ro + j, none⟩)) rfl rfl hns (by kernel_rfl) (by kernel_rfl) hQ (by kernel_rfl) (fun W _ => ix_sl1 (n := l.length) (c := rc) rfl (by kernel_rfl) (by kernel_rfl) (by kernel_rfl) rfl hjl W) ⟨hS8, tA, rA, xA⟩ ?_
          refine hx_take (i := 8) (oi := _) (v := .int .i64 z) rfl rfl hns (by kernel_rfl) (by kernel_rfl) hQ (by kernel_rfl) (fun W hW => ld_one rfl (by kernel_rfl) (by kernel_rfl) W (hW.2.2.1 0 _ rfl)) ⟨hS8, tA, rA, xA⟩ ?_
          refine hx_take (i := 9) (oi := _) (v := .slice (some ⟨b, ob, none⟩) Wh.length wc) rfl rfl hns (by kernel_rfl) (by kernel_rfl) hQ (by kernel_rfl) (fun _ _ => by kernel_rfl) ⟨hS8, tA, rA, xA⟩ ?_
          refine hx_take (i := 10) (oi := _) (v := .int .i64 (k : Int)) rfl rfl hns (by kernel_rfl) (by kernel_rfl) hQ (by kernel_rfl) (fun _ _ => by kernel_rfl) ⟨hS8, tA, rA, xA⟩ ?_
          refine hx_take (i := 11) (oi := _) (v := .pointer (some ⟨b, ob + k, none⟩)) rfl rfl hns (by kernel_rfl) (by kernel_rfl) hQ (by kernel_rfl) (fun W _ => ix_sl1 (n := Wh.length) (c := wc) rfl (by kernel_rfl) (by kernel_rfl) (by kernel_rfl) rfl hlt W) ⟨hS8, tA, rA, xA⟩ ?_
          refine hx_take (i := 12) (oi := _) (v := .int .i64 x) rfl rfl hns (by kernel_rfl) (by kernel_rfl) hQ (by kernel_rfl) (fun W hW => ld_one rfl (by kernel_rfl) (by kernel_rfl) W (hW.2.2.2 0 _ rfl)) ⟨hS8, tA, rA, xA⟩ ?_
          refine hx_take (i := 13) (oi := _) (v := .bool false) rfl rfl hns (by kernel_rfl) (by kernel_rfl) hQ (by kernel_rfl) (fun W _ => bin_valT (eql_int rfl (by kernel_rfl) (by kernel_rfl) W) hq9) ⟨hS8, tA, rA, xA⟩ ?_
          refine hx_take (i := 14) (oi := _) (v := .bool false) rfl rfl hns (by kernel_rfl) (by kernel_rfl) hQ (by kernel_rfl) (fun _ _ => by kernel_rfl) ⟨hS8, tA, rA, xA⟩ ?_
          refine hx_take (i := 15) (oi := _) (v := .bool false) rfl rfl hns (by kernel_rfl) (by kernel_rfl) hQ (by kernel_rfl) (fun _ _ => by kernel_rfl) ⟨hS8, tA, rA, xA⟩ ?_
          refine wpAnyH_done (by kernel_rfl) ?_ _
          clear hns hQ
          simp only [List.set_cons_zero, List.set_cons_succ]
          clear rA tA xA
          go_wp2_with fail
          go_roundw
          case rel => exact ⟨j + 1, by omega, by go_num, by rw [hpm.out, hq9]; rfl, hS8⟩
          case measure => simp [intOf]; omega
    have hjl2 : ¬ (j : Int) < (l.length : Int) := by omega
    rw [List.take_of_length_le (by omega)] at hTT
    cases TT
    case true =>
      have hX9 := HWS.out _ hS8 hTT.out
      go_wp2_with fail
      go_roundw
      case rel => exact ⟨k + 1, by omega, by go_num, hX9⟩
      case measure => simp [intOf]; omega
    case false =>
    have hpn : Hid (posF l x 0 = none) := by
      show _ = _
      cases hh : posF l x 0 with
      | none => rfl
      | some _ => have := hTT.out; rw [hh] at this; cases this
    have hS9 := hS5.trans hS8
    go_wp2_with fail
    clear hcell c8 HIR hTT HWS
    have hCI : CellIs w8 wb (0 + id) (.slice ra l.length rc) := by show _ = _; rw [Nat.zero_add]; exact hS8.cell ((e3.cell id).trans HCU.out)
    have hO := own_since hiO hS8
    have hC := e3.next hS8
    have hN : Since w8 w8 := Since.refl _
    have hDw8 := Nat.le_trans hDw hS8.size
    have hge : w.heap.size ≤ wb := HGW.out
    have hb0 : Since w w8.drew := (hS9).drew
    replace hCI := hCI.next ((Since.refl w8).drew)
    replace hO := own_since hO ((Since.refl w8).drew)
    replace hC := hC.next ((Since.refl w8).drew)
    replace hN := hN.trans ((Since.refl w8).drew)
    refine hx_begin (S := fun W => Since w W) (by kernel_rfl) hb0 (by kernel_rfl) (fun _ _ _ _ _ h => h) (fun hns hQ => ?_)
    refine hx_take (i := 0) (oi := _) (v := .slice (some ⟨wb, 0, none⟩) q sc) rfl rfl hns (by kernel_rfl) (by kernel_rfl) hQ (by kernel_rfl) (fun _ _ => by kernel_rfl) hb0 ?_
    refine hx_take (i := 1) (oi := _) (v := .int .i64 (id : Int)) rfl rfl hns (by kernel_rfl) (by kernel_rfl) hQ (by kernel_rfl) (fun _ _ => by kernel_rfl) hb0 ?_
    refine hx_take (i := 2) (oi := _) (v := .slice (some ⟨wb, 0, none⟩) q sc) rfl rfl hns (by kernel_rfl) (by kernel_rfl) hQ (by kernel_rfl) (fun _ _ => by kernel_rfl) hb0 ?_
    refine hx_take (i := 3) (oi := _) (v := .int .i64 (id : Int)) rfl rfl hns (by kernel_rfl) (by kernel_rfl) hQ (by kernel_rfl) (fun _ _ => by kernel_rfl) hb0 ?_
    refine hx_take (i := 4) (oi := _) (v := .pointer (some ⟨wb, 0 + id, none⟩)) rfl rfl hns (by kernel_rfl) (by kernel_rfl) hQ (by kernel_rfl) (fun W _ => ix_sl1 (n := q) (c := sc) rfl (by kernel_rfl) (by kernel_rfl) (by kernel_rfl) rfl hin W) hb0 ?_
    refine hx_take (i := 6) (oi := _) (v := .slice (some ⟨b, ob, none⟩) Wh.length wc) rfl rfl hns (by kernel_rfl) (by kernel_rfl) hQ (by kernel_rfl) (fun _ _ => by kernel_rfl) hb0 ?_
    refine hx_take (i := 7) (oi := _) (v := .int .i64 (k : Int)) rfl rfl hns (by kernel_rfl) (by kernel_rfl) hQ (by kernel_rfl) (fun _ _ => by kernel_rfl) hb0 ?_
    refine hx_take (i := 8) (oi := _) (v := .pointer (some ⟨b, ob + k, none⟩)) rfl rfl hns (by kernel_rfl) (by kernel_rfl) hQ (by kernel_rfl) (fun W _ => ix_sl1 (n := Wh.length) (c := wc) rfl (by kernel_rfl) (by kernel_rfl) (by kernel_rfl) rfl hlt W) hb0 ?_
    refine hx_take (i := 9) (oi := _) (v := .int .i64 x) rfl rfl hns (by kernel_rfl) (by kernel_rfl) hQ (by kernel_rfl) (fun W hW => ld_one rfl (by kernel_rfl) (by kernel_rfl) W (xA0.next hW 0 _ rfl)) hb0 ?_
    refine hx_two_vv (i := 5) (j := 10) (.slice ra l.length rc) (w8.drew) (.slice (some ⟨w8.drew.heap.size, 0, none⟩) 1 1) ((w8.drew.alloc (.cells #[.int .i64 x] 3))) rfl rfl (by kernel_rfl) (by kernel_rfl) (by kernel_rfl) rfl (ld_one rfl (by kernel_rfl) (by kernel_rfl) w8.drew (hCI.cell 0)) hb0 rfl (by kernel_rfl) (hb0.alloc _) ?_ ?_
    · have hb1 : Since w (w8.drew.alloc (.cells #[.int .i64 x] 3)) := hb0.alloc _
      replace hCI := hCI.next ((Since.refl w8.drew).alloc (.cells #[.int .i64 x] 3))
      replace hO := own_since hO ((Since.refl w8.drew).alloc (.cells #[.int .i64 x] 3))
      replace hC := hC.next ((Since.refl w8.drew).alloc (.cells #[.int .i64 x] 3))
      replace hN := hN.trans ((Since.refl w8.drew).alloc (.cells #[.int .i64 x] 3))
      refine hx_make (i := 10) (oi := _) (.slice (some ⟨w8.drew.heap.size, 0, none⟩) 1 1) (w8.drew.alloc (.cells #[.int .i64 x] 3)) rfl rfl (by kernel_rfl) (by kernel_rfl) (by kernel_rfl) hb1 ?_
      refine hx_append (i := 11) (oi := _) (.tmp 119) (.tmp 124) 42 D 3 i3 (.int .i64 0) 1 8 (.slice ra l.length rc) l.length _ _ (some ⟨w8.drew.heap.size, 0, none⟩) 1 1 [.int .i64 x] rfl rfl (by kernel_rfl) (by kernel_rfl) rfl Tryd.underlying42 I3.out.1 I3.out.2.1 I3.out.2.2.1 I3.out.2.2.2 rfl (by decide) (by kernel_rfl) hO (by kernel_rfl) (reads_new _ #[.int .i64 x] _ 1 rfl) (by simp [Value.oneCell']) (by unfold maxLen; omega) (by omega) (Nat.le_trans hDw8 hN.size) ?_
      intro v14 w14 hown4 hg4 hat4
      have hb2 : Since w w14 := Below.grown hb1 hg4 (hb1).size (fun b hb => Nat.le_trans HD.out (hO.lt b hb).1)
      obtain ⟨a4, c4, rfl⟩ := own_slice hown4
      have hX9 := HWT.out _ _ _ _ hS8 hN hg4 hpn.out hown4 hat4
      replace hC := cel_own hC hO (by decide) hg4
      clear hO hg4 hat4 hown4 hN
      refine ⟨hb2, ?_⟩
      refine hx_take (i := 12) (oi := _) (v := .pointer (some ⟨wb, 0 + id, none⟩)) rfl rfl hns (by kernel_rfl) (by kernel_rfl) hQ (by kernel_rfl) (fun W _ => ix_sl1 (n := q) (c := sc) rfl (by kernel_rfl) (by kernel_rfl) (by kernel_rfl) rfl hin W) hb2 ?_
      have hb3 : Since w (w14.setCell ⟨wb, 0 + id, none⟩ (.slice a4 (l.length + 1) c4)) := Below.setCell (p := ⟨wb, 0 + id, none⟩) hb2 hge _
      refine hx_store (i := 13) (oi := _) (w14.setCell ⟨wb, 0 + id, none⟩ (.slice a4 (l.length + 1) c4)) rfl rfl (by kernel_rfl) (by kernel_rfl) (st_ints rfl (by kernel_rfl) (by kernel_rfl) _ hC HE4.out) hb3 ?_
      refine wpAnyH_done (by kernel_rfl) ?_ _
      clear hns hQ
      simp only [List.set_cons_zero, List.set_cons_succ]
      clear hC
      rw [Nat.zero_add] at hX9
      go_wp2_with fail
      go_roundw
      case rel => exact ⟨k + 1, by omega, by go_num, hX9⟩
      case measure => simp [intOf]; omega
    · have hb1 : Since w (w8.drew.alloc (.cells #[.int .i64 x] 3)) := hb0.alloc _
      replace hCI := hCI.next ((Since.refl w8.drew).alloc (.cells #[.int .i64 x] 3))
      replace hO := own_since hO ((Since.refl w8.drew).alloc (.cells #[.int .i64 x] 3))
      replace hC := hC.next ((Since.refl w8.drew).alloc (.cells #[.int .i64 x] 3))
      replace hN := hN.trans ((Since.refl w8.drew).alloc (.cells #[.int .i64 x] 3))
      refine hx_make (i := 5) (oi := _) (.slice ra l.length rc) ((w8.drew.alloc (.cells #[.int .i64 x] 3))) rfl rfl (by kernel_rfl) (by kernel_rfl) (ld_one rfl (by kernel_rfl) (by kernel_rfl) (w8.drew.alloc (.cells #[.int .i64 x] 3)) (hCI.cell 0)) hb1 ?_
      refine hx_append (i := 11) (oi := _) (.tmp 119) (.tmp 124) 42 D 3 i3 (.int .i64 0) 1 8 (.slice ra l.length rc) l.length _ _ (some ⟨w8.drew.heap.size, 0, none⟩) 1 1 [.int .i64 x] rfl rfl (by kernel_rfl) (by kernel_rfl) rfl Tryd.underlying42 I3.out.1 I3.out.2.1 I3.out.2.2.1 I3.out.2.2.2 rfl (by decide) (by kernel_rfl) hO (by kernel_rfl) (reads_new _ #[.int .i64 x] _ 1 rfl) (by simp [Value.oneCell']) (by unfold maxLen; omega) (by omega) (Nat.le_trans hDw8 hN.size) ?_
      intro v14 w14 hown4 hg4 hat4
      have hb2 : Since w w14 := Below.grown hb1 hg4 (hb1).size (fun b hb => Nat.le_trans HD.out (hO.lt b hb).1)
      obtain ⟨a4, c4, rfl⟩ := own_slice hown4
      have hX9 := HWT.out _ _ _ _ hS8 hN hg4 hpn.out hown4 hat4
      replace hC := cel_own hC hO (by decide) hg4
      clear hO hg4 hat4 hown4 hN
      refine ⟨hb2, ?_⟩
      refine hx_take (i := 12) (oi := _) (v := .pointer (some ⟨wb, 0 + id, none⟩)) rfl rfl hns (by kernel_rfl) (by kernel_rfl) hQ (by kernel_rfl) (fun W _ => ix_sl1 (n := q) (c := sc) rfl (by kernel_rfl) (by kernel_rfl) (by kernel_rfl) rfl hin W) hb2 ?_
      have hb3 : Since w (w14.setCell ⟨wb, 0 + id, none⟩ (.slice a4 (l.length + 1) c4)) := Below.setCell (p := ⟨wb, 0 + id, none⟩) hb2 hge _
      refine hx_store (i := 13) (oi := _) (w14.setCell ⟨wb, 0 + id, none⟩ (.slice a4 (l.length + 1) c4)) rfl rfl (by kernel_rfl) (by kernel_rfl) (st_ints rfl (by kernel_rfl) (by kernel_rfl) _ hC HE4.out) hb3 ?_
      refine wpAnyH_done (by kernel_rfl) ?_ _
      clear hns hQ
      simp only [List.set_cons_zero, List.set_cons_succ]
      clear hC
      rw [Nat.zero_add] at hX9
      go_wp2_with fail
      go_roundw
      case rel => exact ⟨k + 1, by omega, by go_num, hX9⟩
      case measure => simp [intOf]; omega
  have hlt2 : ¬ (k : Int) < (Wh.length : Int) := by omega
  obtain ⟨S, Z, Lw, hS, hT, hWa, hZo, hM, hn, hok⟩ := hX
  have HM := Lib.hid hM
  have HN := Lib.hid hn
  have HOK := Lib.hid hok
  clear hM hn hok hZo
  go_wp2_with fail
  have hk40 : k ≤ 40 := by omega
  clear hlt2 hlt hk
  go_loopw [15] (fun i wr => ∃ k : Nat, k ≤ q ∧ i = .int .i64 (k : Int) ∧ Since wp wr) (fun i _ => q - (intOf i).toNat)
  case atStart => exact ⟨0, Nat.zero_le _, rfl, Since.refl _⟩
  case round =>
  rename World => w20
  obtain ⟨k, hk, rfl, hS20⟩ := hrel
  by_cases hlt : k < q
  · have hlt2 : (k : Int) < (q : Int) := by omega
    have hkS : k < S.length := by rw [HN.out]; exact hlt
    have hkL : k < Lw.length := by rw [want_same HM.out, HN.out]; exact hlt
    have HCL := Lib.hid (tcall_t k w20 (hT.next hS20) hkS)
    have HWR := Lib.hid (fun W (h : Since wp W) => twait_t k W (hT.next h) hkS)
    have hcan := (HOK.out _ (List.getElem_mem hkS)).1
    have hlw : (S[k]).2.2.length ≤ 1000 := by have := (HOK.out _ (List.getElem_mem hkS)).2.2; omega
    have hiO := hWa.inner hkL
    obtain ⟨wb, wcap, cur, e1, e2, e3, e4⟩ := hWa.at hkL
    obtain ⟨rfl, rfl⟩ : sa = some ⟨wb, 0, none⟩ ∧ sc = wcap := by
      injection e1 with k1 k2 k3
      exact ⟨k1, k3⟩
    rw [want_row HM.out hkL hkS] at hiO
    obtain ⟨l, hl⟩ : ∃ l, Hid (l = (S[k]).2.2) := ⟨(S[k]).2.2, rfl⟩
    obtain ⟨y, hy⟩ : ∃ y, Hid (y = (S[k]).1) := ⟨(S[k]).1, rfl⟩
    obtain ⟨u, hu⟩ : ∃ u, Hid (u = (Lw[k]).2) := ⟨(Lw[k]).2, rfl⟩
    rw [← hl.out] at hlw HWR hiO
    rw [← hy.out] at HCL hcan
    rw [← hu.out] at hiO e4
    clear hl hy hu hkS hkL e1 e2
    obtain ⟨ra, rc, rfl⟩ : ∃ a c, u = .slice a l.length c := own_slice hiO
    obtain ⟨y_s, y_p, y_n, ⟨y_v0, y_l0⟩, ⟨y_v1, y_l1⟩, ⟨y_v2, y_l2⟩, ⟨y_v3, y_l3⟩⟩ := y
    replace HCL : Hid (Calls Tryd.prog 13 #[.pointer (some ⟨g, 0, none⟩), .int .i64 (k : Int)] w20 fun e w' => e = .returned (.tuple #[.agg #[.string ⟨y_s.toArray⟩, .string ⟨y_p.toArray⟩, .int .i64 y_n, .bool y_v0, .string ⟨y_l0.toArray⟩, .bool y_v1, .string ⟨y_l1.toArray⟩, .bool y_v2, .string ⟨y_l2.toArray⟩, .bool y_v3, .string ⟨y_l3.toArray⟩], .bool true]) ∧ Since w20 w') := HCL
    have HCA : Hid (∀ W, Calls Tryd.prog 11 #[.agg #[.string ⟨y_s.toArray⟩, .string ⟨y_p.toArray⟩, .int .i64 y_n, .bool y_v0, .string ⟨y_l0.toArray⟩, .bool y_v1, .string ⟨y_l1.toArray⟩, .bool y_v2, .string ⟨y_l2.toArray⟩, .bool y_v3, .string ⟨y_l3.toArray⟩]] W fun e w' => e = .returned (.agg #[.string ⟨y_s.toArray⟩, .string ⟨y_p.toArray⟩, .int .i64 y_n, .bool y_v0, .string ⟨y_l0.toArray⟩, .bool y_v1, .string ⟨y_l1.toArray⟩, .bool y_v2, .string ⟨y_l2.toArray⟩, .bool y_v3, .string ⟨y_l3.toArray⟩]) ∧ Since W w') := by
      intro W
      have := rcanon_any y_s y_p y_n y_v0 y_v1 y_v2 y_v3 y_l0 y_l1 y_l2 y_l3 W
      rw [hcan] at this
      exact this
    have HSA : Hid (∀ W v, Since wp W → W.ownsRow 0 3 1 v l.length (l.flatMap intV1) → Calls Tryd.prog 17 #[v, .slice ra l.length rc] W fun e w' => e = .returned (.bool true) ∧ Since W w') := by
      intro W v hs hr
      refine (ksame_int v (.slice ra l.length rc) l l W (own_irow1 hr) (inext (own_irow1 hiO) hs) (by omega) (by omega)).mono ?_
      rintro e w' ⟨rfl, m, rfl⟩
      exact ⟨ret_bool (by simp), (Since.refl W).drewN m⟩
    have tA0 : At wp wb (0 + k) #[.slice ra l.length rc] := At.one (by rw [Nat.zero_add]; exact (e3.cell k).trans e4)
    clear hcan e3 e4
    go_wp2_with fail
    refine HCL.out.mono ?_
    rintro e w21 ⟨rfl, hb21⟩
    have hS21 := hS20.trans hb21
    have K7 : Hid (Cel (w21.alloc (.cells #[.string ⟨#[]⟩, .string ⟨#[]⟩, .int .i64 0, .bool false, .string ⟨#[]⟩, .bool false, .string ⟨#[]⟩, .bool false, .string ⟨#[]⟩, .bool false, .string ⟨#[]⟩] 34)) w21.heap.size #[.string ⟨#[]⟩, .string ⟨#[]⟩, .int .i64 0, .bool false, .string ⟨#[]⟩, .bool false, .string ⟨#[]⟩, .bool false, .string ⟨#[]⟩, .bool false, .string ⟨#[]⟩] 34) := heap_alloc_new w21 _
    have hone : Hid (((#[.string ⟨y_s.toArray⟩, .string ⟨y_p.toArray⟩, .int .i64 y_n, .bool y_v0, .string ⟨y_l0.toArray⟩, .bool y_v1, .string ⟨y_l1.toArray⟩, .bool y_v2, .string ⟨y_l2.toArray⟩, .bool y_v3, .string ⟨y_l3.toArray⟩] : Array Value).all (·.oneCell')) = true) := by show _ = _; simp [Value.oneCell']
    clear HCL hb21
    go_wp2_with (refine wpList_store_row rfl 34 (.tmp 16) (.tmp 136) rfl w21.heap.size #[.string ⟨y_s.toArray⟩, .string ⟨y_p.toArray⟩, .int .i64 y_n, .bool y_v0, .string ⟨y_l0.toArray⟩, .bool y_v1, .string ⟨y_l1.toArray⟩, .bool y_v2, .string ⟨y_l2.toArray⟩, .bool y_v3, .string ⟨y_l3.toArray⟩] rfl rfl 34 #[.string ⟨#[]⟩, .string ⟨#[]⟩, .int .i64 0, .bool false, .string ⟨#[]⟩, .bool false, .string ⟨#[]⟩, .bool false, .string ⟨#[]⟩, .bool false, .string ⟨#[]⟩] K7.out ainfoC rfl hone.out ?_)
    have hS22 : Since w21 ((w21.alloc (.cells #[.string ⟨#[]⟩, .string ⟨#[]⟩, .int .i64 0, .bool false, .string ⟨#[]⟩, .bool false, .string ⟨#[]⟩, .bool false, .string ⟨#[]⟩, .bool false, .string ⟨#[]⟩] 34)).setRow w21.heap.size #[.string ⟨y_s.toArray⟩, .string ⟨y_p.toArray⟩, .int .i64 y_n, .bool y_v0, .string ⟨y_l0.toArray⟩, .bool y_v1, .string ⟨y_l1.toArray⟩, .bool y_v2, .string ⟨y_l2.toArray⟩, .bool y_v3, .string ⟨y_l3.toArray⟩]) := since_setRow ((Since.refl w21).alloc _) (Nat.le_refl _) _
    have yA : At ((w21.alloc (.cells #[.string ⟨#[]⟩, .string ⟨#[]⟩, .int .i64 0, .bool false, .string ⟨#[]⟩, .bool false, .string ⟨#[]⟩, .bool false, .string ⟨#[]⟩, .bool false, .string ⟨#[]⟩] 34)).setRow w21.heap.size #[.string ⟨y_s.toArray⟩, .string ⟨y_p.toArray⟩, .int .i64 y_n, .bool y_v0, .string ⟨y_l0.toArray⟩, .bool y_v1, .string ⟨y_l1.toArray⟩, .bool y_v2, .string ⟨y_l2.toArray⟩, .bool y_v3, .string ⟨y_l3.toArray⟩]) w21.heap.size 0 #[.string ⟨y_s.toArray⟩, .string ⟨y_p.toArray⟩, .int .i64 y_n, .bool y_v0, .string ⟨y_l0.toArray⟩, .bool y_v1, .string ⟨y_l1.toArray⟩, .bool y_v2, .string ⟨y_l2.toArray⟩, .bool y_v3, .string ⟨y_l3.toArray⟩] := Cel.at (K7.out.row _)
    replace hS21 := hS21.trans hS22
    obtain ⟨yb, hyb⟩ : ∃ n, Hid (w21.heap.size = n) := ⟨_, rfl⟩
    obtain ⟨w22, hw22⟩ : ∃ n, Hid ((w21.alloc (.cells #[.string ⟨#[]⟩, .string ⟨#[]⟩, .int .i64 0, .bool false, .string ⟨#[]⟩, .bool false, .string ⟨#[]⟩, .bool false, .string ⟨#[]⟩, .bool false, .string ⟨#[]⟩] 34)).setRow w21.heap.size #[.string ⟨y_s.toArray⟩, .string ⟨y_p.toArray⟩, .int .i64 y_n, .bool y_v0, .string ⟨y_l0.toArray⟩, .bool y_v1, .string ⟨y_l1.toArray⟩, .bool y_v2, .string ⟨y_l2.toArray⟩, .bool y_v3, .string ⟨y_l3.toArray⟩] = n) := ⟨_, rfl⟩
    rw [hw22.out] at hS21 yA
    rw [hyb.out] at yA
    rw [hw22.out, hyb.out]
    clear hw22 hyb hS22 K7 hone
    have tA := tA0.next hS21
    replace hS21 := hS21.trans ((Since.refl w22).drew)
    replace yA := yA.next ((Since.refl w22).drew)
    replace tA := tA.next ((Since.refl w22).drew)
    refine hx_begin (S := fun W => (Since wp W) ∧ (At W yb 0 #[.string ⟨y_s.toArray⟩, .string ⟨y_p.toArray⟩, .int .i64 y_n, .bool y_v0, .string ⟨y_l0.toArray⟩, .bool y_v1, .string ⟨y_l1.toArray⟩, .bool y_v2, .string ⟨y_l2.toArray⟩, .bool y_v3, .string ⟨y_l3.toArray⟩]) ∧ (At W wb (0 + k) #[.slice ra l.length rc])) (by kernel_rfl) ⟨hS21, yA, tA⟩ (by kernel_rfl) (fun _ _ _ _ _ h => h) (fun hns hQ => ?_)
    refine hx_take (i := 0) (oi := _) (v := .bool true) rfl rfl hns (by kernel_rfl) (by kernel_rfl) hQ (by kernel_rfl) (fun _ _ => by kernel_rfl) ⟨hS21, yA, tA⟩ ?_
    refine hx_take (i := 1) (oi := _) (v := .bool false) rfl rfl hns (by kernel_rfl) (by kernel_rfl) hQ (by kernel_rfl) (fun _ _ => by kernel_rfl) ⟨hS21, yA, tA⟩ ?_
    refine hx_take (i := 2) (oi := _) (v := .bool false) rfl rfl hns (by kernel_rfl) (by kernel_rfl) hQ (by kernel_rfl) (fun _ _ => by kernel_rfl) ⟨hS21, yA, tA⟩ ?_
    refine hx_take (i := 3) (oi := _) (v := .pointer (some ⟨g, 0, none⟩)) rfl rfl hns (by kernel_rfl) (by kernel_rfl) hQ (by kernel_rfl) (fun _ _ => by kernel_rfl) ⟨hS21, yA, tA⟩ ?_
    refine hx_take (i := 4) (oi := _) (v := .int .i64 (k : Int)) rfl rfl hns (by kernel_rfl) (by kernel_rfl) hQ (by kernel_rfl) (fun _ _ => by kernel_rfl) ⟨hS21, yA, tA⟩ ?_
    refine hx_take (i := 6) (oi := _) (v := .slice (some ⟨wb, 0, none⟩) q sc) rfl rfl hns (by kernel_rfl) (by kernel_rfl) hQ (by kernel_rfl) (fun _ _ => by kernel_rfl) ⟨hS21, yA, tA⟩ ?_
    refine hx_take (i := 7) (oi := _) (v := .int .i64 (k : Int)) rfl rfl hns (by kernel_rfl) (by kernel_rfl) hQ (by kernel_rfl) (fun _ _ => by kernel_rfl) ⟨hS21, yA, tA⟩ ?_
    refine hx_take (i := 8) (oi := _) (v := .pointer (some ⟨wb, 0 + k, none⟩)) rfl rfl hns (by kernel_rfl) (by kernel_rfl) hQ (by kernel_rfl) (fun W _ => ix_sl1 (n := q) (c := sc) rfl (by kernel_rfl) (by kernel_rfl) (by kernel_rfl) rfl hlt W) ⟨hS21, yA, tA⟩ ?_
    refine hx_take (i := 9) (oi := _) (v := .slice ra l.length rc) rfl rfl hns (by kernel_rfl) (by kernel_rfl) hQ (by kernel_rfl) (fun W hW => ld_one rfl (by kernel_rfl) (by kernel_rfl) W (hW.2.2 0 _ rfl)) ⟨hS21, yA, tA⟩ ?_
    refine hx_call (i := 5) (oi := _) 18 #[.pointer (some ⟨g, 0, none⟩), .int .i64 (k : Int)] rfl rfl (by kernel_rfl) (by kernel_rfl) (by kernel_rfl) (HWR.out _ hS21) ?_
    rintro e wx96 ⟨v9, rfl, hr9, hb⟩
    replace hS21 := hS21.trans hb
    replace yA := yA.next hb
    replace tA := tA.next hb
    clear hb
    refine ⟨_, rfl, ⟨hS21, yA, tA⟩, ?_⟩
    refine hx_call (i := 10) (oi := _) 17 #[v9, .slice ra l.length rc] rfl rfl (by kernel_rfl) (by kernel_rfl) (by kernel_rfl) (HSA.out _ _ hS21 (own_base hr9 (Nat.zero_le _))) ?_
    rintro e wx97 ⟨rfl, hb⟩
    replace hS21 := hS21.trans hb
    replace yA := yA.next hb
    replace tA := tA.next hb
    clear hb
    refine ⟨_, rfl, ⟨hS21, yA, tA⟩, ?_⟩
    refine hx_take (i := 11) (oi := _) (v := .bool false) rfl rfl hns (by kernel_rfl) (by kernel_rfl) hQ (by kernel_rfl) (fun _ _ => by kernel_rfl) ⟨hS21, yA, tA⟩ ?_
    refine hx_take (i := 12) (oi := _) (v := .bool false) rfl rfl hns (by kernel_rfl) (by kernel_rfl) hQ (by kernel_rfl) (fun _ _ => by kernel_rfl) ⟨hS21, yA, tA⟩ ?_
    refine hx_take (i := 13) (oi := _) (v := .bool false) rfl rfl hns (by kernel_rfl) (by kernel_rfl) hQ (by kernel_rfl) (fun _ _ => by kernel_rfl) ⟨hS21, yA, tA⟩ ?_
    refine hx_take (i := 14) (oi := _) (v := .agg #[.string ⟨y_s.toArray⟩, .string ⟨y_p.toArray⟩, .int .i64 y_n, .bool y_v0, .string ⟨y_l0.toArray⟩, .bool y_v1, .string ⟨y_l1.toArray⟩, .bool y_v2, .string ⟨y_l2.toArray⟩, .bool y_v3, .string ⟨y_l3.toArray⟩]) rfl rfl hns (by kernel_rfl) (by kernel_rfl) hQ (by kernel_rfl) (fun W hW => ld_at rfl (by kernel_rfl) (by kernel_rfl) (by kernel_rfl) W (hW.2.1)) ⟨hS21, yA, tA⟩ ?_
    refine hx_take (i := 15) (oi := _) (v := .agg #[.string ⟨y_s.toArray⟩, .string ⟨y_p.toArray⟩, .int .i64 y_n, .bool y_v0, .string ⟨y_l0.toArray⟩, .bool y_v1, .string ⟨y_l1.toArray⟩, .bool y_v2, .string ⟨y_l2.toArray⟩, .bool y_v3, .string ⟨y_l3.toArray⟩]) rfl rfl hns (by kernel_rfl) (by kernel_rfl) hQ (by kernel_rfl) (fun W hW => ld_at rfl (by kernel_rfl) (by kernel_rfl) (by kernel_rfl) W (hW.2.1)) ⟨hS21, yA, tA⟩ ?_
    refine hx_call (i := 16) (oi := _) 11 #[.agg #[.string ⟨y_s.toArray⟩, .string ⟨y_p.toArray⟩, .int .i64 y_n, .bool y_v0, .string ⟨y_l0.toArray⟩, .bool y_v1, .string ⟨y_l1.toArray⟩, .bool y_v2, .string ⟨y_l2.toArray⟩, .bool y_v3, .string ⟨y_l3.toArray⟩]] rfl rfl (by kernel_rfl) (by kernel_rfl) (by kernel_rfl) (HCA.out _) ?_
    rintro e wx98 ⟨rfl, hb⟩
    replace hS21 := hS21.trans hb
    replace yA := yA.next hb
    replace tA := tA.next hb
    clear hb
    refine ⟨_, rfl, ⟨hS21, yA, tA⟩, ?_⟩
    refine hx_take (i := 17) (oi := _) (v := .bool false) rfl rfl hns (by kernel_rfl) (by kernel_rfl) hQ (by kernel_rfl) (fun W _ => neqg_same y_s y_p y_n y_v0 y_v1 y_v2 y_v3 y_l0 y_l1 y_l2 y_l3 rfl (by kernel_rfl) (by kernel_rfl) W) ⟨hS21, yA, tA⟩ ?_
    refine hx_take (i := 18) (oi := _) (v := .bool false) rfl rfl hns (by kernel_rfl) (by kernel_rfl) hQ (by kernel_rfl) (fun _ _ => by kernel_rfl) ⟨hS21, yA, tA⟩ ?_
    refine wpAnyH_done (by kernel_rfl) ?_ _
    clear hns hQ
    simp only [List.set_cons_zero, List.set_cons_succ]
    clear yA tA
    go_wp2_with fail
    go_roundw
    case rel => exact ⟨k + 1, by omega, by go_num, hS21⟩
    case measure => simp [intOf]; omega
  have hlt2 : ¬ (k : Int) < (q : Int) := by omega
  have hcnt : cntS S = 0 := cnt_zero fun c hc => (HOK.out c hc).2.1
  have HLN := Lib.hid (fun W (h : Since wp W) => tlen_t W (hT.next h))
  have HCN := Lib.hid (fun W (h : Since wp W) => tcount_t W (hT.next h))
  have HWN := Lib.hid (fun W (h : Since wp W) => twait_tn (q : Int) W (hT.next h) (.inr (by rw [HN.out]; exact Int.le_refl _)))
  rw [HN.out] at HLN
  rw [hcnt] at HCN
  clear hcnt
  go_wp2_with fail
  refine (HLN.out _ hS20).mono ?_
  rintro e w21 ⟨rfl, hb21⟩
  replace hS20 := hS20.trans hb21
  go_wp2_with fail
  refine (HCN.out _ hS20).mono ?_
  rintro e w22 ⟨rfl, hb22⟩
  replace hS20 := hS20.trans hb22
  go_wp2_with fail
  refine (HWN.out _ hS20).mono ?_
  rintro e w23 ⟨rfl, hb23⟩
  replace hS20 := hS20.trans hb23
  go_wp2_with fail
  go_ret
  exact ⟨rfl, hS.trans hS20⟩
end Go.Proofs.YtbgdljcgbhhfdaaDoor
