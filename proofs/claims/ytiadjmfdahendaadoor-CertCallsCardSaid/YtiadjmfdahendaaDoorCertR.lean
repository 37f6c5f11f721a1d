/- cert.Read. -/
import Derived.Test.YtiadjmfdahendaaDoorCertI2
import Derived.Test.YtiadjmfdahendaaDoorCertH2
namespace Go.Proofs.YtiadjmfdahendaaDoor
open Go.RowKit

theorem stpInfo3 : (Tryd.prog.info? 39).map (fun i => (i.zero, i.size, i.bytes)) = some (some (.agg (stpA zeroStp (.slice none 0 0))), 13, 168) := by kernel_rfl
def ReadPost (s : List UInt8) (w : World) (e : Ending) (w' : World) : Prop :=
  ∃ v, e = .returned (.tuple #[v, .int .i64 (if (readS s).isSome then 0 else 15)]) ∧ StpRow w' v ((readS s).getD []) ∧ Since w w'
theorem OutRow.next {W W' : World} {base : Nat} {v : Value} {P : List (Stp × Value)} (h : OutRow W base v P) (hs : Since W W') (hb : 0 < base) : OutRow W' base v P :=
  h.far (gsince (World.grownBy.refl _ (some 0)) hs) hb
theorem StpRow.zero (W : World) : StpRow W (.slice none 0 0) [] := ⟨none, 0, rfl, Nat.le_refl _, fun h => absurd h (Nat.lt_irrefl 0)⟩
theorem since_g {w W : World} {g : Nat} (h : w.grownBy W (some g)) (hg : w.heap.size ≤ g) : Since w W := Below.grown (Since.refl w) h (Nat.le_refl _) fun k hk => by injection hk with hk; omega
theorem one_list {cs : Array Value} (h : cs.all (·.oneCell') = true) : ∀ u ∈ cs.toList, u.oneCell' = true := by
  intro u hu
  rw [Array.all_eq_true'] at h
  exact h u (by simpa using hu)
/-- What stands behind the append of a step. -/
theorem readtail {w w8 w9 : World} {T : TypeId} {s : List UInt8} {j1 : Nat} {b : Bool} {v v9 sv : Value} {P : List (Stp × Value)} {x : Stp} (how : OutRow w8 (w.heap.size + 1) v P) (hR : Rdr w8 w.heap.size T s j1 b) (hS : Since w w8) (hsv : w8.ownsRow (w.heap.size + 1) 3 1 sv x.2.2.length (x.2.2.map intV))
    {t : TypeId} (hg : (w8.alloc (.cells (stpA x sv) t)).grownBy w9 v.ownBlock) (h9 : w9.ownsRow (w.heap.size + 1) 39 13 v9 (P.length + 1) (rowP P ++ (stpA x sv).toList)) :
    OutRow w9 (w.heap.size + 1) v9 (P ++ [(x, sv)]) ∧ Rdr w9 w.heap.size T s j1 b ∧ Since w w9 := by
  have hA : Since w8 (w8.alloc (.cells (stpA x sv) t)) := (Since.refl _).alloc _
  have hb : ∀ k, v.ownBlock = some k → w.heap.size + 1 ≤ k := fun k hk => (how.1.lt k hk).1
  have hS8 := hS.trans hA
  refine ⟨(how.next hA (Nat.succ_pos _)).push (own_far hsv (gsince (World.grownBy.refl _ (some 0)) hA) (Nat.succ_pos _)) h9 hg, (hR.next hA).grown hg (fun e => by have := hb _ e.symm; omega), ?_⟩
  exact Below.grown hS8 hg hS8.size fun k hk => by have := hb k hk; omega
theorem cells13 (W : World) (cs : Array Value) (t : TypeId) (g : Nat) (hg : W.heap.size = g) : ∀ j u, cs.toList[j]? = some u → (W.alloc (.cells cs t)).cell? ((⟨g, 0, none⟩ : Addr).add j) = some u := by
  subst hg
  intro j u hu
  have hadd : (⟨W.heap.size, 0, none⟩ : Addr).add j = ⟨W.heap.size, j, none⟩ := by unfold Addr.add; split <;> simp_all
  rw [hadd, World.cell?_alloc_new]
  simpa using hu

set_option maxHeartbeats 4000000 in
set_option maxRecDepth 100000 in
theorem read_any (s : List UInt8) (w : World) (hs : s.length ≤ 1000000) (hE : Env w) :
    Calls Tryd.prog 15 #[.string ⟨s.toArray⟩] w (ReadPost s w) := by
  have HN := Lib.hid (fun (W : World) (h : Rdr W w.heap.size 65 s 0 false) => cnum_any s 0 false w.heap.size 65 W hs (Nat.zero_le _) h)
  have l0 := (numS_le (s := s) (bad := false) (Nat.zero_le _)).2
  have n0 := (numS_le (s := s) (bad := false) (Nat.zero_le _)).1
  have hRS : readS s = if (stepsS s (numS s 0 false).1 0 (numS s 0 false).2.1 ((numS s 0 false).2.2 || decide (1048576 < (numS s 0 false).1))).2.2 || decide ((stepsS s (numS s 0 false).1 0 (numS s 0 false).2.1 ((numS s 0 false).2.2 || decide (1048576 < (numS s 0 false).1))).2.1 ≠ s.length) then none else some (stepsS s (numS s 0 false).1 0 (numS s 0 false).2.1 ((numS s 0 false).2.2 || decide (1048576 < (numS s 0 false).1))).1 := rfl
  unfold NumPost at HN
  generalize numS s 0 false = M at *
  obtain ⟨n, i3, b3⟩ := M
  simp only at HN l0 n0 hRS
  obtain ⟨B, hBd⟩ : ∃ B, Hid (B = (b3 || decide (1048576 < n))) := ⟨_, rfl⟩
  rw [← hBd.out] at hRS
  obtain ⟨q, hq⟩ : ∃ q, Hid (q = stepsS s n 0 i3 B) := ⟨_, rfl⟩
  rw [← hq.out] at hRS
  have HRS := Lib.hid hRS
  clear hRS
  have hBk : B = false → n ≤ 1048576 := by
    intro h
    rw [hBd.out, Bool.or_eq_false_iff, decide_eq_false_iff_not] at h
    omega
  have hcase : (b3 = true ∧ B = true) ∨ (b3 = false ∧ decide ((1048576 : Int) < (n : Int)) = B) := by
    have e : decide ((1048576 : Int) < (n : Int)) = decide (1048576 < n) := by
      rw [Bool.eq_iff_iff, decide_eq_true_eq, decide_eq_true_eq]; omega
    rw [e, hBd.out]
    cases b3
    · exact .inr ⟨rfl, by simp⟩
    · exact .inl ⟨rfl, by simp⟩
  have en : IntKind.i64.wrap (n : Int) = (n : Int) := IntWalk.i64_in _ (by omega)
  have hR1 : Rdr (w.alloc (.cells #[.string ⟨s.toArray⟩, .int .i64 0, .bool false] 65)) w.heap.size 65 s 0 false := heap_alloc_new w _
  have hg1 : Since w (w.alloc (.cells #[.string ⟨s.toArray⟩, .int .i64 0, .bool false] 65)) := (Since.refl _).alloc _
  clear hBd
  go_enter Tryd.func15, Tryd.ntmps15
  go_wp2_with fail
  refine (HN.out _ hR1).mono ?_
  rintro e w2 ⟨rfl, hR2, hg2⟩
  have hS2 : Since w w2 := since_far hg1 hg2 (Nat.le_refl _)
  have hR3 := hR2.set2 B
  have hS3 := hS2.setCell (p := ⟨w.heap.size, 2, none⟩) (Nat.le_refl _) (.bool B)
  obtain ⟨w3, hw3⟩ : ∃ w3, Hid (w2.setCell ⟨w.heap.size, 2, none⟩ (.bool B) = w3) := ⟨_, rfl⟩
  rw [hw3.out] at hR3 hS3
  have c2 := hR2.c2
  have hl2 := hR2.lt
  have hf2 := hR2.free
  have how3 : OutRow w3 (w.heap.size + 1) (.slice none 0 0) [] := OutRow.nil _ _
  have hq0 : Hid (q = ((([] : List (Stp × Value)).map Prod.fst) ++ (stepsS s (n - 0) 0 i3 B).1, (stepsS s (n - 0) 0 i3 B).2)) := hq.out
  obtain ⟨i0, hi0, hz0, hz1, hz2⟩ := info_parts stpInfo3
  have HI := Lib.hid (And.intro hi0 (And.intro hz0 (And.intro hz1 hz2)))
  clear hi0 hz0 hz1 hz2 hR2 hg2 hR1 hg1 hq HN hS2
  rcases hcase with ⟨rfl, rfl⟩ | ⟨rfl, hd16⟩
  all_goals
    go_wp2_with fail
    rw [hw3.out]
    try clear hd16
    clear hw3 c2 hl2 hf2
    go_loopw [6, 7] (fun v x wr => ∃ (k : Nat) (P : List (Stp × Value)) (j : Nat) (bb : Bool), k ≤ n ∧ P.length = k ∧ x = .int .i64 (k : Int) ∧ j ≤ s.length ∧ (bb = false → n ≤ 1048576) ∧ Rdr wr w.heap.size 65 s j bb ∧ OutRow wr (w.heap.size + 1) v P ∧ Since w wr ∧ Hid (q = (P.map Prod.fst ++ (stepsS s (n - k) k j bb).1, (stepsS s (n - k) k j bb).2))) (fun _ x _ => n - (intOf x).toNat)
    case atStart => exact ⟨0, [], i3, _, by omega, rfl, rfl, l0, hBk, hR3, how3, hS3, hq0.out⟩
    case round =>
      clear hR3 how3 hS3 hq0 hBk
      obtain ⟨k, P, j, bb, hk, hP, rfl, hj, hbb, hRj, how, hSj, hres⟩ := hrel
      have c2 := hRj.c2
      have HP := Lib.hid hP
      clear hP
      by_cases hgo : k < n ∧ bb = false
      · obtain ⟨hlt, rfl⟩ := hgo
        have hm := hbb rfl
        have HST := Lib.hid (fun (W : World) (hR : Rdr W w.heap.size 65 s j false) (hS : Since w W) => rstep_any w s j false w.heap.size 65 W hs hj hR hE hS (Nat.le_refl _))
        have lX := stepS_le (s := s) (bad := false) hj
        have okX := stepS_ok (s := s) (i := j) (bad := false)
        obtain ⟨X, hX⟩ : ∃ X, Hid (X = stepS s j false) := ⟨_, rfl⟩
        have hres2 : Hid (q = (((P.map Prod.fst) ++ [X.1]) ++ (stepsS s (n - (k + 1)) (k + 1) X.2.1 (X.2.2 || !mayB k X.1)).1, (stepsS s (n - (k + 1)) (k + 1) X.2.1 (X.2.2 || !mayB k X.1)).2)) := by
          have hnn : n - k = (n - (k + 1)) + 1 := by omega
          have h := hres.out
          rw [hnn, stepsS, if_neg (by simp)] at h
          simp only at h
          rw [← hX.out] at h
          show _ = _
          rw [h]; simp
        unfold RStepPost at HST
        rw [← hX.out] at HST lX okX
        obtain ⟨⟨⟨u, p, nn, ⟨v0, m0⟩, ⟨v1, m1⟩, ⟨v2, m2⟩, ⟨v3, m3⟩⟩, cl, cs⟩, j1, b1⟩ := X
        simp only [stpA] at HST lX okX hres2
        clear hX hres
        go_wp2_with fail
        refine (HST.out _ hRj hSj).mono ?_
        rintro e w5 ⟨sv, rfl, hsv, hR5, hg5⟩
        have hS5 : Since w w5 := since_far hSj hg5 (Nat.le_refl _)
        have how5 : OutRow w5 (w.heap.size + 1) u6 P := how.far hg5 (Nat.lt_succ_self _)
        have hgl := hRj.lt
        have hsv5 := own_down hsv (show w.heap.size + 1 ≤ wr.heap.size from hgl)
        have hlg5 := hR5.lt
        clear hsv how hRj hSj hg5 HST
        have hZ : (w5.alloc (.cells #[.string ⟨#[]⟩, .string ⟨#[]⟩, .int .i64 0, .bool false, .string ⟨#[]⟩, .bool false, .string ⟨#[]⟩, .bool false, .string ⟨#[]⟩, .bool false, .string ⟨#[]⟩, .int .i64 0, .slice none 0 0] 39)).heap[w5.heap.size]? = some (.cells #[.string ⟨#[]⟩, .string ⟨#[]⟩, .int .i64 0, .bool false, .string ⟨#[]⟩, .bool false, .string ⟨#[]⟩, .bool false, .string ⟨#[]⟩, .bool false, .string ⟨#[]⟩, .int .i64 0, .slice none 0 0] 39 (0, 0)) := heap_alloc_new w5 _
        have HZ := Lib.hid hZ
        have hone : Hid ((#[.string ⟨u.toArray⟩, .string ⟨p.toArray⟩, .int .i64 nn, .bool v0, .string ⟨m0.toArray⟩, .bool v1, .string ⟨m1.toArray⟩, .bool v2, .string ⟨m2.toArray⟩, .bool v3, .string ⟨m3.toArray⟩, .int .i64 cl, sv] : Array Value).all (·.oneCell') = true) := by
          show _ = _
          rcases Joins.ownsRow_forms hsv5 with ⟨rfl, _⟩ | ⟨_, _, rfl⟩ <;> simp [Value.oneCell']
        clear hZ
        obtain ⟨w6, hw6⟩ : ∃ w6, Hid ((w5.alloc (.cells #[.string ⟨#[]⟩, .string ⟨#[]⟩, .int .i64 0, .bool false, .string ⟨#[]⟩, .bool false, .string ⟨#[]⟩, .bool false, .string ⟨#[]⟩, .bool false, .string ⟨#[]⟩, .int .i64 0, .slice none 0 0] 39)).setRow w5.heap.size #[.string ⟨u.toArray⟩, .string ⟨p.toArray⟩, .int .i64 nn, .bool v0, .string ⟨m0.toArray⟩, .bool v1, .string ⟨m1.toArray⟩, .bool v2, .string ⟨m2.toArray⟩, .bool v3, .string ⟨m3.toArray⟩, .int .i64 cl, sv] = w6) := ⟨_, rfl⟩
        have hs56 : Since w5 w6 := by rw [← hw6.out]; exact since_row ((Since.refl _).alloc _) (Nat.le_refl _) _
        have hB6 : BlkS w6 w5.heap.size ((u, p, nn, (v0, m0), (v1, m1), (v2, m2), (v3, m3)), cl, cs) sv := by rw [← hw6.out]; exact setRow_heap _ _ _ _ _ (0, 0) HZ.out
        have hR6 := hR5.next hs56
        have how6 := how5.next hs56 (Nat.succ_pos _)
        have hS6 := hS5.trans hs56
        have hsv6 : w6.ownsRow (w.heap.size + 1) 3 1 sv cs.length (cs.map intV) := own_far hsv5 (gsince (World.grownBy.refl _ (some 0)) hs56) (Nat.succ_pos _)
        have hlt56 : w.heap.size < w5.heap.size := hlg5
        clear hR5 how5 hS5 hsv5 hlg5 hs56
        have HC6 := hR6.c2
        have HL6 := hR6.lt
        have HF6 := hR6.free
        have hPl : P.length ≤ 1048576 := by rw [HP.out]; omega
        obtain ⟨mb, hmb⟩ : ∃ mb, Hid (mb = mayB k ((u, p, nn, (v0, m0), (v1, m1), (v2, m2), (v3, m3)), cl, cs)) := ⟨_, rfl⟩
        rw [← hmb.out] at hres2
        cases b1
        case true =>
          have hR8 := hR6.set2 true
          have hS8 := hS6.setCell (p := ⟨w.heap.size, 2, none⟩) (Nat.le_refl _) (.bool true)
          have hB8 : Hid ((w6.setCell ⟨w.heap.size, 2, none⟩ (.bool true)).heap[w5.heap.size]? = some (.cells #[.string ⟨u.toArray⟩, .string ⟨p.toArray⟩, .int .i64 nn, .bool v0, .string ⟨m0.toArray⟩, .bool v1, .string ⟨m1.toArray⟩, .bool v2, .string ⟨m2.toArray⟩, .bool v3, .string ⟨m3.toArray⟩, .int .i64 cl, sv] 39 (0, 0))) := hB6.far (p := ⟨w.heap.size, 2, none⟩) (by show w5.heap.size ≠ w.heap.size; omega) (.bool true)
          have how8 := how6.far (gset (World.grownBy.refl w6 (some w.heap.size)) 2 (.bool true)) (Nat.lt_succ_self _)
          have hsv8 := own_far hsv6 (gset (World.grownBy.refl w6 (some w.heap.size)) 2 (.bool true)) (Nat.lt_succ_self _)
          have hz8 : w.heap.size + 1 ≤ (w6.setCell ⟨w.heap.size, 2, none⟩ (.bool true)).heap.size := by simp; omega
          clear hB6 how6 hsv6 hR6 hS6
          go_wp2_with (first
            | (((refine wpList_store_row rfl 39 (.tmp 8) (.tmp 45) rfl w5.heap.size #[.string ⟨u.toArray⟩, .string ⟨p.toArray⟩, .int .i64 nn, .bool v0, .string ⟨m0.toArray⟩, .bool v1, .string ⟨m1.toArray⟩, .bool v2, .string ⟨m2.toArray⟩, .bool v3, .string ⟨m3.toArray⟩, .int .i64 cl, sv] rfl rfl 39 _ HZ.out stpInfo rfl hone.out ?_); rw [hw6.out]))
            | (refine wpList_load_row rfl 39 (.tmp 8) rfl w5.heap.size rfl 39 #[.string ⟨u.toArray⟩, .string ⟨p.toArray⟩, .int .i64 nn, .bool v0, .string ⟨m0.toArray⟩, .bool v1, .string ⟨m1.toArray⟩, .bool v2, .string ⟨m2.toArray⟩, .bool v3, .string ⟨m3.toArray⟩, .int .i64 cl, sv] (0, 0) _ hB8.out Tryd.underlying39 rfl stpInfo ?_)
            | (at_builtin; refine wpList_append_own _ rfl (.tmp 61) (.tmp 63) 22 rfl (w.heap.size + 1) 39 i0 (.agg (stpA zeroStp (.slice none 0 0))) 13 168 Tryd.underlying22 HI.out.1 HI.out.2.1 HI.out.2.2.1 HI.out.2.2.2 rfl (by decide) u6 P.length (rowP P) rfl (how8.next ((Since.refl _).alloc _) (Nat.succ_pos _)).1 ⟨_, 0, none⟩ 1 1 (#[.string ⟨u.toArray⟩, .string ⟨p.toArray⟩, .int .i64 nn, .bool v0, .string ⟨m0.toArray⟩, .bool v1, .string ⟨m1.toArray⟩, .bool v2, .string ⟨m2.toArray⟩, .bool v3, .string ⟨m3.toArray⟩, .int .i64 cl, sv] : Array Value).toList rfl rfl (cells13 _ _ _ _ (by simp)) (one_list hone.out) (by unfold maxLen; omega) (by omega) (by simp; omega) ?_; intro v9 w9 hown9 hg9 _; have hX := readtail (x := ((u, p, nn, (v0, m0), (v1, m1), (v2, m2), (v3, m3)), cl, cs)) how8 hR8 hS8 hsv8 hg9 hown9; clear hown9 hg9))
          go_roundw
          case rel => exact ⟨k + 1, P ++ [(((u, p, nn, (v0, m0), (v1, m1), (v2, m2), (v3, m3)), cl, cs), sv)], j1, (true || !mb), by omega, by simp [HP.out], by go_num, lX, fun _ => hm, hX.2.1, hX.1, hX.2.2, by rw [List.map_append]; exact hres2.out⟩
          case measure => simp [intOf]; omega

        case false =>
          obtain ⟨ok1, ok2⟩ := okX rfl
          have HM := Lib.hid (may_any u p nn v0 v1 v2 v3 m0 m1 m2 m3 cl sv cs k w6 (valid_fits ok1) (hE.next hS6) (cite_of_own hsv6) (by have : cs.length ≤ 16 := ok2; omega))
          rw [← hmb.out] at HM
          have d0 : w6.cell? ⟨w5.heap.size, 0, none⟩ = some (.string ⟨u.toArray⟩) := hB6.cell 0
          have d1 : w6.cell? ⟨w5.heap.size, 1, none⟩ = some (.string ⟨p.toArray⟩) := hB6.cell 1
          have d2 : w6.cell? ⟨w5.heap.size, 2, none⟩ = some (.int .i64 nn) := hB6.cell 2
          have d3 : w6.cell? ⟨w5.heap.size, 3, none⟩ = some (.bool v0) := hB6.cell 3
          have d4 : w6.cell? ⟨w5.heap.size, 4, none⟩ = some (.string ⟨m0.toArray⟩) := hB6.cell 4
          have d5 : w6.cell? ⟨w5.heap.size, 5, none⟩ = some (.bool v1) := hB6.cell 5
          have d6 : w6.cell? ⟨w5.heap.size, 6, none⟩ = some (.string ⟨m1.toArray⟩) := hB6.cell 6
          have d7 : w6.cell? ⟨w5.heap.size, 7, none⟩ = some (.bool v2) := hB6.cell 7
          have d8 : w6.cell? ⟨w5.heap.size, 8, none⟩ = some (.string ⟨m2.toArray⟩) := hB6.cell 8
          have d9 : w6.cell? ⟨w5.heap.size, 9, none⟩ = some (.bool v3) := hB6.cell 9
          have d10 : w6.cell? ⟨w5.heap.size, 10, none⟩ = some (.string ⟨m3.toArray⟩) := hB6.cell 10
          have d11 : w6.cell? ⟨w5.heap.size, 11, none⟩ = some (.int .i64 cl) := hB6.cell 11
          have d12 : w6.cell? ⟨w5.heap.size, 12, none⟩ = some (sv) := hB6.cell 12
          go_wp2_with (((refine wpList_store_row rfl 39 (.tmp 8) (.tmp 45) rfl w5.heap.size #[.string ⟨u.toArray⟩, .string ⟨p.toArray⟩, .int .i64 nn, .bool v0, .string ⟨m0.toArray⟩, .bool v1, .string ⟨m1.toArray⟩, .bool v2, .string ⟨m2.toArray⟩, .bool v3, .string ⟨m3.toArray⟩, .int .i64 cl, sv] rfl rfl 39 _ HZ.out stpInfo rfl hone.out ?_); rw [hw6.out]))
          refine HM.out.mono ?_
          rintro e w7 ⟨rfl, hb7⟩
          have hR7 := hR6.next hb7
          have HC7 := hR7.c2
          have HL7 := hR7.lt
          have HF7 := hR7.free
          have hR8 := hR7.set2 (!mb)
          have hS8 := (hS6.trans hb7).setCell (p := ⟨w.heap.size, 2, none⟩) (Nat.le_refl _) (.bool (!mb))
          have hB8 : Hid ((w7.setCell ⟨w.heap.size, 2, none⟩ (.bool (!mb))).heap[w5.heap.size]? = some (.cells #[.string ⟨u.toArray⟩, .string ⟨p.toArray⟩, .int .i64 nn, .bool v0, .string ⟨m0.toArray⟩, .bool v1, .string ⟨m1.toArray⟩, .bool v2, .string ⟨m2.toArray⟩, .bool v3, .string ⟨m3.toArray⟩, .int .i64 cl, sv] 39 (0, 0))) := (hB6.next hb7).far (p := ⟨w.heap.size, 2, none⟩) (by show w5.heap.size ≠ w.heap.size; omega) (.bool (!mb))
          have how8 := (how6.next hb7 (Nat.succ_pos _)).far (gset (World.grownBy.refl w7 (some w.heap.size)) 2 (.bool (!mb))) (Nat.lt_succ_self _)
          have hsv8 := own_far (own_far hsv6 (gsince (World.grownBy.refl _ (some 0)) hb7) (Nat.succ_pos _)) (gset (World.grownBy.refl w7 (some w.heap.size)) 2 (.bool (!mb))) (Nat.lt_succ_self _)
          have hz8 : w.heap.size + 1 ≤ (w7.setCell ⟨w.heap.size, 2, none⟩ (.bool (!mb))).heap.size := by simp; omega
          clear hB6 how6 hsv6 hR6 hS6 d0 d1 d2 d3 d4 d5 d6 d7 d8 d9 d10 d11 d12 HC6 HL6 HF6 hb7 hR7
          go_wp2_with (first
            | (refine wpList_load_row rfl 39 (.tmp 8) rfl w5.heap.size rfl 39 #[.string ⟨u.toArray⟩, .string ⟨p.toArray⟩, .int .i64 nn, .bool v0, .string ⟨m0.toArray⟩, .bool v1, .string ⟨m1.toArray⟩, .bool v2, .string ⟨m2.toArray⟩, .bool v3, .string ⟨m3.toArray⟩, .int .i64 cl, sv] (0, 0) _ hB8.out Tryd.underlying39 rfl stpInfo ?_)
            | (at_builtin; refine wpList_append_own _ rfl (.tmp 61) (.tmp 63) 22 rfl (w.heap.size + 1) 39 i0 (.agg (stpA zeroStp (.slice none 0 0))) 13 168 Tryd.underlying22 HI.out.1 HI.out.2.1 HI.out.2.2.1 HI.out.2.2.2 rfl (by decide) u6 P.length (rowP P) rfl (how8.next ((Since.refl _).alloc _) (Nat.succ_pos _)).1 ⟨_, 0, none⟩ 1 1 (#[.string ⟨u.toArray⟩, .string ⟨p.toArray⟩, .int .i64 nn, .bool v0, .string ⟨m0.toArray⟩, .bool v1, .string ⟨m1.toArray⟩, .bool v2, .string ⟨m2.toArray⟩, .bool v3, .string ⟨m3.toArray⟩, .int .i64 cl, sv] : Array Value).toList rfl rfl (cells13 _ _ _ _ (by simp)) (one_list hone.out) (by unfold maxLen; omega) (by omega) (by simp; omega) ?_; intro v9 w9 hown9 hg9 _; have hX := readtail (x := ((u, p, nn, (v0, m0), (v1, m1), (v2, m2), (v3, m3)), cl, cs)) how8 hR8 hS8 hsv8 hg9 hown9; clear hown9 hg9))
          go_roundw
          case rel => exact ⟨k + 1, P ++ [(((u, p, nn, (v0, m0), (v1, m1), (v2, m2), (v3, m3)), cl, cs), sv)], j1, (false || !mb), by omega, by simp [HP.out], by go_num, lX, fun _ => hm, hX.2.1, hX.1, hX.2.2, by rw [List.map_append]; exact hres2.out⟩
          case measure => simp [intOf]; omega

      · have hqe : q = (P.map Prod.fst, j, bb) := by
          rw [hres.out]
          by_cases hlt : k < n
          · obtain rfl : bb = true := by
              cases bb
              · exact absurd ⟨hlt, rfl⟩ hgo
              · rfl
            rw [stepsS_bad]; simp
          · rw [show n - k = 0 by omega, stepsS]; simp
        have hRS := HRS.out
        rw [hqe] at hRS
        simp only at hRS
        have c1 := hRj.c1
        have hlg := hRj.lt
        have hrow := how.row
        clear hres hqe how hRj
        cases bb
        case true =>
          have HPQ : Hid (ReadPost s w (.returned (.tuple #[.slice none 0 0, .int .i64 15])) wr) := by
            have hn : readS s = none := by rw [hRS]; simp
            show ReadPost _ _ _ _
            refine ⟨.slice none 0 0, by rw [hn]; rfl, by rw [hn]; exact StpRow.zero _, hSj⟩
          clear hRS hrow hgo hSj
          by_cases hlt : k < n
          · go_wp2_with fail
            go_ret2
            exact HPQ.out
          · go_wp2_with fail
            go_ret2
            exact HPQ.out
        case false =>
          have hkn : ¬ k < n := fun h => hgo ⟨h, rfl⟩
          clear hgo
          by_cases hjl : j = s.length
          · have HPQ : Hid (ReadPost s w (.returned (.tuple #[u6, .int .i64 0])) wr) := by
              have hn : readS s = some (P.map Prod.fst) := by rw [hRS, hjl]; simp
              show ReadPost _ _ _ _
              refine ⟨u6, by rw [hn]; rfl, by rw [hn]; exact hrow, hSj⟩
            have hq2 : ((j : Int) != (s.length : Int)) = false := by simp [hjl]
            clear hRS hrow hSj hjl
            go_wp2_with fail
            go_ret2
            exact HPQ.out
          · have HPQ : Hid (ReadPost s w (.returned (.tuple #[.slice none 0 0, .int .i64 15])) wr) := by
              have hn : readS s = none := by rw [hRS]; simp [hjl]
              show ReadPost _ _ _ _
              refine ⟨.slice none 0 0, by rw [hn]; rfl, by rw [hn]; exact StpRow.zero _, hSj⟩
            have hq2 : ((j : Int) != (s.length : Int)) = true := by simp; omega
            clear hRS hrow hSj hjl
            go_wp2_with fail
            go_ret2
            exact HPQ.out
end Go.Proofs.YtiadjmfdahendaaDoor
