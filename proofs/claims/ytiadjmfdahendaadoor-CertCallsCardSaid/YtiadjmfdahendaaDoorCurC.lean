/- The reference's cursor: Atom. -/
import Derived.Test.YtiadjmfdahendaaDoorCurB
import Derived.Test.YtiadjmfdahendaaDoorCertF
namespace Go.Proofs.YtiadjmfdahendaaDoor
open Go.RowKit

theorem Cur.far {W : World} {g : Nat} {s : List UInt8} {i : Nat} {bad : Bool} (h : Cur W g s i bad) {p : Addr} (hp : g ≠ p.block) (v : Value) : Cur (W.setCell p v) g s i bad := (Below.heap_setCell W p v g hp).trans h
theorem Cur.row {W : World} {g B : Nat} {s : List UInt8} {i : Nat} {bad : Bool} (h : Cur W g s i bad) (hB : g ≠ B) (cs : Array Value) : Cur (W.setRow B cs) g s i bad := (setRow_other W B g cs hB).trans h
def CAtomPost (s : List UInt8) (i : Nat) (bad : Bool) (g : Nat) (w : World) (e : Ending) (w' : World) : Prop :=
  e = .returned (.agg (atmC (ratomS s i bad).1)) ∧ Cur w' g s (ratomS s i bad).2.1 (ratomS s i bad).2.2 ∧ w.grownBy w' (some g)
set_option maxHeartbeats 4000000 in
set_option maxRecDepth 100000 in
theorem curatom_any (s : List UInt8) (i : Nat) (bad : Bool) (g : Nat) (w : World) (hs : s.length ≤ 1000000) (hi : i ≤ s.length) (hR : Cur w g s i bad) :
    Calls Tryd.prog 38 #[.pointer (some ⟨g, 0, none⟩)] w (CAtomPost s i bad g w) := by
  have HT1 := Lib.hid (fun W h => curtext_any s i bad g W hs hi h)
  have l1 := textS_le (bad := bad) hi
  obtain ⟨U, hU⟩ : ∃ U, Hid (U = textS s i bad) := ⟨_, rfl⟩
  unfold CTextPost at HT1
  have lu := textS_len s i bad
  rw [← hU.out] at HT1 l1 lu
  obtain ⟨u, i1, b1⟩ := U
  simp only at HT1 l1 lu
  have HT2 := Lib.hid (fun W h => curtext_any s i1 b1 g W hs l1 h)
  have l2 := textS_le (bad := b1) l1
  obtain ⟨V, hV⟩ : ∃ V, Hid (V = textS s i1 b1) := ⟨_, rfl⟩
  unfold CTextPost at HT2
  have lp := textS_len s i1 b1
  rw [← hV.out] at HT2 l2 lp
  obtain ⟨p, i2, b2⟩ := V
  simp only at HT2 l2 lp
  have HN3 := Lib.hid (fun W h => curnum_any s i2 b2 g W hs l2 h)
  have l3 := (numS_le (bad := b2) l2).2
  have n3 := (numS_le (bad := b2) l2).1
  obtain ⟨M, hM⟩ : ∃ M, Hid (M = numS s i2 b2) := ⟨_, rfl⟩
  unfold CNumPost at HN3
  rw [← hM.out] at HN3 l3 n3
  obtain ⟨n, i3, b3⟩ := M
  simp only at HN3 l3 n3
  obtain ⟨R, hR0⟩ : ∃ R, Hid (R = rnamesS s n i3 (b3 || decide (4 < n))) := ⟨_, rfl⟩
  have hA : Hid (ratomS s i bad = if R.2.2 || (checkA (padM u p n R.1) != 0) then (zeroAtm, R.2.1, true) else (padM u p n R.1, R.2.1, false)) := by
    show _ = _
    unfold ratomS
    rw [← hU.out]
    simp only
    rw [← hV.out]
    simp only
    rw [← hM.out]
    simp only
    rw [← hR0.out]
  have hne : w.heap.size ≠ g := by have := hR.lt; omega
  have hR1 : Cur (w.alloc (.cells (atmC zeroAtm) 27)) g s i bad := hR.next ((Since.refl _).alloc _)
  have hB1 : BlkA (w.alloc (.cells (atmC zeroAtm) 27)) w.heap.size zeroAtm := by
    unfold BlkA
    exact heap_alloc_new w _
  have hg1 : w.grownBy (w.alloc (.cells (atmC zeroAtm) 27)) (some g) := gsince (World.grownBy.refl _ _) ((Since.refl _).alloc _)
  have hsn : some w.heap.size ≠ some g := fun e => hne (by injection e)
  have hgl := hR.lt
  have hone : Hid ((#[.string ⟨u.toArray⟩, .string ⟨p.toArray⟩, .int .i64 0, .bool false, .string ⟨#[]⟩, .bool false, .string ⟨#[]⟩, .bool false, .string ⟨#[]⟩, .bool false, .string ⟨#[]⟩] : Array Value).all (·.oneCell') = true) := by show _ = _; simp [Value.oneCell']
  clear hU hV hM hR
  go_enter Tryd.func38, Tryd.ntmps38
  go_wp2_with fail
  refine (HT1.out _ hR1).mono ?_
  rintro e w2 ⟨rfl, hR2, hg2⟩
  have hB2 : BlkA w2 w.heap.size zeroAtm := BlkA.grown hB1 hg2 hsn
  replace hg2 := gtrans hg1 hg2
  clear hB1 hg1 hR1 HT1
  go_wp2_with fail
  refine (HT2.out _ hR2).mono ?_
  rintro e w3 ⟨rfl, hR3, hg3⟩
  have hB3 : BlkA w3 w.heap.size zeroAtm := BlkA.grown hB2 hg3 hsn
  replace hg3 := gtrans hg2 hg3
  clear hB2 hg2 hR2 HT2
  have hnew : Hid ((w3.alloc (.cells (atmC zeroAtm) 27)).heap[w3.heap.size]? = some (.cells (atmC zeroAtm) 27 (0, 0))) := heap_alloc_new w3 _
  go_wp2_with (refine wpList_store_row rfl 27 (.tmp 3) (.tmp 11) rfl w3.heap.size #[.string ⟨u.toArray⟩, .string ⟨p.toArray⟩, .int .i64 0, .bool false, .string ⟨#[]⟩, .bool false, .string ⟨#[]⟩, .bool false, .string ⟨#[]⟩, .bool false, .string ⟨#[]⟩] rfl rfl 27 (atmC zeroAtm) hnew.out ainfoA rfl hone.out ?_)
  have hgl3 : w.heap.size < w3.heap.size := hB3.lt
  have hgn : g < w3.heap.size := hR3.lt
  have hA4 : BlkA ((w3.alloc (.cells (atmC zeroAtm) 27)).setRow w3.heap.size (atmC (padM u p 0 []))) w3.heap.size (padM u p 0 []) := BlkA.row (a := zeroAtm) hnew.out (padM u p 0 [])
  have hB4 : BlkA ((w3.alloc (.cells (atmC zeroAtm) 27)).setRow w3.heap.size (atmC (padM u p 0 []))) w.heap.size zeroAtm := (setRow_other _ _ _ _ (by omega)).trans (hB3.next ((Since.refl _).alloc _))
  have hR4 : Cur ((w3.alloc (.cells (atmC zeroAtm) 27)).setRow w3.heap.size (atmC (padM u p 0 []))) g s i2 b2 := (hR3.next ((Since.refl _).alloc _)).row (by omega) _
  have hg4 : w.grownBy ((w3.alloc (.cells (atmC zeroAtm) 27)).setRow w3.heap.size (atmC (padM u p 0 []))) (some g) := grow_row (gsince hg3 ((Since.refl _).alloc _)) (by omega) _
  have ew4 : ((w3.alloc (.cells (atmC zeroAtm) 27)).setRow w3.heap.size (atmC (padM u p 0 []))) = ((w3.alloc (.cells #[.string ⟨#[]⟩, .string ⟨#[]⟩, .int .i64 0, .bool false, .string ⟨#[]⟩, .bool false, .string ⟨#[]⟩, .bool false, .string ⟨#[]⟩, .bool false, .string ⟨#[]⟩] 27)).setRow w3.heap.size #[.string ⟨u.toArray⟩, .string ⟨p.toArray⟩, .int .i64 0, .bool false, .string ⟨#[]⟩, .bool false, .string ⟨#[]⟩, .bool false, .string ⟨#[]⟩, .bool false, .string ⟨#[]⟩]) := rfl
  rw [ew4] at hA4 hB4 hR4 hg4
  clear ew4 hnew hB3 hR3 hg3 hone
  generalize ((w3.alloc (.cells #[.string ⟨#[]⟩, .string ⟨#[]⟩, .int .i64 0, .bool false, .string ⟨#[]⟩, .bool false, .string ⟨#[]⟩, .bool false, .string ⟨#[]⟩, .bool false, .string ⟨#[]⟩] 27)).setRow w3.heap.size #[.string ⟨u.toArray⟩, .string ⟨p.toArray⟩, .int .i64 0, .bool false, .string ⟨#[]⟩, .bool false, .string ⟨#[]⟩, .bool false, .string ⟨#[]⟩, .bool false, .string ⟨#[]⟩]) = w4 at *
  generalize w3.heap.size = nb at *
  have hnn : some nb ≠ some g := fun e => by injection e; omega
  refine (HN3.out _ hR4).mono ?_
  rintro e w5 ⟨rfl, hR5, hg5⟩
  have hB5 := hB4.grown hg5 hsn
  have hA5 := hA4.grown hg5 hnn
  replace hg5 := gtrans hg4 hg5
  have hlt5 := hR5.lt
  have hfr5 := hR5.free
  have c2 := hR5.c2
  clear hR4 hg4 hB4 hA4 HN3
  obtain ⟨b, hb⟩ : ∃ b, Hid (b = (b3 || decide (4 < n))) := ⟨_, rfl⟩
  have en : IntKind.i64.wrap (n : Int) = (n : Int) := IntWalk.i64_in _ (by omega)
  have HW : Hid (∃ w6, Cur w6 g s i3 b ∧ BlkA w6 w.heap.size zeroAtm ∧ BlkA w6 nb (padM u p 0 []) ∧ w.grownBy w6 (some g) ∧ w6 = if decide (4 < n) then w5.setCell ⟨g, 2, none⟩ (.int .i64 15) else w5) := by
    cases h4 : decide (4 < n)
    · refine ⟨w5, ?_, hB5, hA5, hg5, by simp⟩
      rw [hb.out, h4, Bool.or_false]; exact hR5
    · refine ⟨w5.setCell ⟨g, 2, none⟩ (.int .i64 15), ?_, hB5.far hne _, hA5.far (fun e => hnn (congrArg some e)) _, gset hg5 _ _, by simp⟩
      rw [hb.out, h4, Bool.or_true]; exact hR5.set2t
  have hbn : b = false → n ≤ 4 := by
    intro h
    rw [hb.out, Bool.or_eq_false_iff, decide_eq_false_iff_not] at h
    omega
  rw [← hb.out] at hR0
  have hRR : Hid (R = (([] : List Tm) ++ (rnamesS s (n - 0) i3 b).1, (rnamesS s (n - 0) i3 b).2)) := hR0.out
  have hdd : Hid (decide (4 < n) = decide ((4 : Int) < (n : Int))) := by
    show _ = _
    rw [Bool.eq_iff_iff, decide_eq_true_eq, decide_eq_true_eq]
    constructor <;> intro h <;> omega
  cases h4 : decide ((4 : Int) < (n : Int))
  all_goals
    obtain ⟨w6, hR6, hB6, hA6, hg6, hw6⟩ := HW.out
    rw [hdd.out, h4] at hw6
    simp only [Bool.false_eq_true, if_false, if_true] at hw6
    clear HW hdd hb hR0
    go_wp2_with fail
    rw [← hw6]
    clear hw6 c2 hlt5 hfr5 hR5 hB5 hA5 hg5
    go_loopw [5] (fun x wr => ∃ (k : Nat) (L : List Tm) (j : Nat) (bb : Bool), k ≤ n ∧ L.length = k ∧ x = .int .i64 k ∧ j ≤ s.length ∧ (bb = false → n ≤ 4) ∧ Cur wr g s j bb ∧ BlkA wr w.heap.size zeroAtm ∧ BlkA wr nb (padM u p 0 L) ∧ w.grownBy wr (some g) ∧ Hid (∀ x ∈ L, x.2.length ≤ s.length) ∧ Hid (R = (L ++ (rnamesS s (n - k) j bb).1, (rnamesS s (n - k) j bb).2))) (fun x _ => n - (intOf x).toNat)
    case atStart => exact ⟨0, [], i3, b, by omega, rfl, rfl, l3, hbn, hR6, hB6, hA6, hg6, (fun x hx => by simp at hx), hRR.out⟩
    case round =>
      clear hR6 hB6 hA6 hg6 hRR hbn
      obtain ⟨k, L, j, bb, hk, hLk, rfl, hj, hbb, hRj, hBj, hAj, hgj, hLl, hres⟩ := hrel
      have HLK := Lib.hid hLk
      clear hLk
      by_cases hlt : (k : Int) < (n : Int)
      · cases bb
        · have c2 := hRj.c2f
          have hk4 : k < 4 := by have := hbb rfl; omega
          have hk4i : (k : Int) < 4 := by omega
          obtain ⟨F, hF⟩ : ∃ F, Hid (F = byteS s j false) := ⟨_, rfl⟩
          have HFL := Lib.hid (curbyte_any s j false g wr hs hj hRj)
          have lf := byteS_le (b := false) hj
          unfold CBytePost at HFL
          rw [← hF.out] at HFL lf
          obtain ⟨fv, j1, bf⟩ := F
          simp only at HFL lf
          obtain ⟨b7, hb7⟩ : ∃ b, Hid (b = (bf || decide (1 < fv))) := ⟨_, rfl⟩
          obtain ⟨X, hX⟩ : ∃ X, Hid (X = textS s j1 b7) := ⟨_, rfl⟩
          have HTX := Lib.hid (fun W h => curtext_any s j1 b7 g W hs lf h)
          have lt2 := textS_le (bad := b7) lf
          unfold CTextPost at HTX
          have lx := textS_len s j1 b7
          rw [← hX.out] at HTX lt2 lx
          obtain ⟨t, j2, bt⟩ := X
          simp only at HTX lt2 lx
          have hLl2 : Hid (∀ x ∈ L ++ [(decide (fv = 1), t)], x.2.length ≤ s.length) := by
            intro x hx
            rcases List.mem_append.1 hx with h | h
            · exact hLl.out x h
            · simp only [List.mem_cons, List.not_mem_nil, or_false] at h
              rw [h]; exact lx
          have hres2 : Hid (R = ((L ++ [(decide (fv = 1), t)]) ++ (rnamesS s (n - (k + 1)) j2 bt).1, (rnamesS s (n - (k + 1)) j2 bt).2)) := by
            have hnn : n - k = (n - (k + 1)) + 1 := by omega
            have h := hres.out
            rw [hnn, rnamesS, if_neg (by simp)] at h
            simp only at h
            rw [← hF.out] at h
            simp only at h
            rw [← hb7.out, ← hX.out] at h
            show _ = _
            rw [h]; simp
          have hbb2 : n ≤ 4 := hbb rfl
          clear hres hF hX hbb
          go_wp2_with fail
          refine HFL.out.mono ?_
          rintro e w7 ⟨rfl, hR7, hg7⟩
          have hB7 := hBj.grown hg7 hsn
          have hA7 := hAj.grown hg7 hnn
          have hgg := gtrans hgj hg7
          have hlt7 := hR7.lt
          have hfr7 := hR7.free
          have d2 := hR7.c2
          have hd1 : Hid (decide (1 < fv) = decide ((1 : Int) < (fv : Int))) := by
            show _ = _
            rw [Bool.eq_iff_iff, decide_eq_true_eq, decide_eq_true_eq]
            constructor <;> intro h <;> omega
          have HW8 : Hid (∃ w8, Cur w8 g s j1 b7 ∧ BlkA w8 w.heap.size zeroAtm ∧ BlkA w8 nb (padM u p 0 L) ∧ w.grownBy w8 (some g) ∧ w8 = if decide (1 < fv) then w7.setCell ⟨g, 2, none⟩ (.int .i64 15) else w7) := by
            cases h1 : decide (1 < fv)
            · refine ⟨w7, ?_, hB7, hA7, hgg, by simp⟩
              rw [hb7.out, h1, Bool.or_false]; exact hR7
            · refine ⟨w7.setCell ⟨g, 2, none⟩ (.int .i64 15), ?_, hB7.far hne _, hA7.far (fun e => hnn (congrArg some e)) _, gset hgg _ _, by simp⟩
              rw [hb7.out, h1, Bool.or_true]; exact hR7.set2t
          cases h1 : decide ((1 : Int) < (fv : Int))
          all_goals
            obtain ⟨w8, hR8, hB8, hA8, hg8, hw8⟩ := HW8.out
            rw [hd1.out, h1] at hw8
            simp only [Bool.false_eq_true, if_false, if_true] at hw8
            clear HW8 hd1 hb7
            go_wp2_with fail
            rw [← hw8]
            clear hw8 d2 hlt7 hfr7 hR7 hB7 hA7 hgg
            refine (HTX.out _ hR8).mono ?_
            rintro e w9 ⟨rfl, hR9, hg9⟩
            have hB9 := hB8.grown hg9 hsn
            have hA9 := hA8.grown hg9 hnn
            have hgg9 := gtrans hg8 hg9
            have hlt9 := hA9.lt
            have hfr9 := hA9.free
            obtain ⟨ca, cb⟩ := hA9.box.args.2 k hk4
            clear hR8 hB8 hA8 hg8 hg9
            go_wp2_with fail
            have hv : ((fv : Int) == 1) = decide (fv = 1) := by
              rw [Bool.eq_iff_iff, beq_iff_eq, decide_eq_true_eq]
              constructor <;> intro h <;> omega
            go_roundw
            case rel =>
              rw [hv]
              exact ⟨k + 1, L ++ [(decide (fv = 1), t)], j2, bt, by omega, by simp [HLK.out], by go_num, lt2, fun _ => hbb2, (hR9.far (fun e => hnn (congrArg some e.symm)) _).far (fun e => hnn (congrArg some e.symm)) _, (hB9.far (Nat.ne_of_lt hgl3) _).far (Nat.ne_of_lt hgl3) _, (hA9.set (pad_v HLK.out hk4 _)).set (pad_t HLK.out hk4 _ t), gfar (gfar hgg9 (Nat.le_of_lt hgl3) _) (Nat.le_of_lt hgl3) _, hLl2.out, hres2.out⟩
            case measure => simp [intOf]; omega
        · have c2 := hRj.c2t
          have hRE : Hid (R = (L, j, true)) := by
            show _ = _
            rw [hres.out, rnamesS_bad]; simp
          have HP : Hid (∀ W, Cur W g s j true → w.grownBy W (some g) → CAtomPost s i bad g w (.returned (.agg (atmC zeroAtm))) W) := by
            intro W h1 h2
            unfold CAtomPost
            rw [hA.out, hRE.out, if_pos (by simp)]; exact ⟨rfl, h1, h2⟩
          have HBK : Hid (wr.heap[w.heap.size]? = some (.cells (atmC zeroAtm) 27 (0, 0))) := hBj
          have hone : Hid ((#[.string ⟨#[]⟩, .string ⟨#[]⟩, .int .i64 0, .bool false, .string ⟨#[]⟩, .bool false, .string ⟨#[]⟩, .bool false, .string ⟨#[]⟩, .bool false, .string ⟨#[]⟩] : Array Value).all (·.oneCell') = true) := by show _ = _; simp [Value.oneCell']
          have hbx : Box (wr.setRow w.heap.size #[.string ⟨#[]⟩, .string ⟨#[]⟩, .int .i64 0, .bool false, .string ⟨#[]⟩, .bool false, .string ⟨#[]⟩, .bool false, .string ⟨#[]⟩, .bool false, .string ⟨#[]⟩]) w.heap.size zeroAtm := (BlkA.row (a := zeroAtm) hBj zeroAtm).box
          have HBX := Lib.hid hbx
          clear hres hA hRE hBj hAj hbx
          go_wp2_with (refine wpList_store_row rfl 27 (.tmp 2) (.tmp 52) rfl w.heap.size #[.string ⟨#[]⟩, .string ⟨#[]⟩, .int .i64 0, .bool false, .string ⟨#[]⟩, .bool false, .string ⟨#[]⟩, .bool false, .string ⟨#[]⟩, .bool false, .string ⟨#[]⟩] rfl rfl 27 (atmC zeroAtm) HBK.out ainfoA rfl hone.out ?_)
          obtain ⟨e0, e1, e2, e3, e4, e5, e6, e7, e8, e9, e10⟩ := HBX.out.all
          refine bodyPost_ret (v := .agg #[.string ⟨#[]⟩, .string ⟨#[]⟩, .int .i64 0, .bool false, .string ⟨#[]⟩, .bool false, .string ⟨#[]⟩, .bool false, .string ⟨#[]⟩, .bool false, .string ⟨#[]⟩]) (by simp [results, Tryd.results38, go_sem, e0, e1, e2, e3, e4, e5, e6, e7, e8, e9, e10, zeroAtm]) rfl ?_
          exact HP.out _ (hRj.row (fun e => hne e.symm) _) (grow_row hgj (Nat.le_refl _) _)
      · cases bb
        · have c2 := hRj.c2f
          have hkn : k = n := by omega
          have hRE : Hid (R = (L, j, false)) := by
            show _ = _
            rw [hres.out, show n - k = 0 by omega, rnamesS]; simp
          obtain ⟨t0, ht0⟩ : ∃ t, Hid (t = L.getD 0 (false, [])) := ⟨_, rfl⟩
          obtain ⟨t1, ht1⟩ : ∃ t, Hid (t = L.getD 1 (false, [])) := ⟨_, rfl⟩
          obtain ⟨t2, ht2⟩ : ∃ t, Hid (t = L.getD 2 (false, [])) := ⟨_, rfl⟩
          obtain ⟨t3, ht3⟩ : ∃ t, Hid (t = L.getD 3 (false, [])) := ⟨_, rfl⟩
          have hpad : ∀ m : Int, padM u p m L = (u, p, m, t0, t1, t2, t3) := by
            intro m
            rw [padM, ← ht0.out, ← ht1.out, ← ht2.out, ← ht3.out]
          have hnl : ∀ q, (L.getD q (false, [])).2.length ≤ s.length := by
            intro q
            rw [List.getD_eq_getElem?_getD]
            cases hq : L[q]? with
            | none => simp
            | some x => exact hLl.out x (List.mem_of_getElem? hq)
          have y0 := hnl 0
          have y1 := hnl 1
          have y2 := hnl 2
          have y3 := hnl 3
          rw [← ht0.out] at y0
          rw [← ht1.out] at y1
          rw [← ht2.out] at y2
          rw [← ht3.out] at y3
          have HA2 : Hid (ratomS s i bad = if (checkA (u, p, (n : Int), t0, t1, t2, t3) != 0) then (zeroAtm, j, true) else ((u, p, (n : Int), t0, t1, t2, t3), j, false)) := by
            show _ = _
            rw [hA.out, hRE.out, hpad]; rfl
          rw [hpad] at hAj
          obtain ⟨v0, m0⟩ := t0
          obtain ⟨v1, m1⟩ := t1
          obtain ⟨v2, m2⟩ := t2
          obtain ⟨v3, m3⟩ := t3
          simp only at y0 y1 y2 y3
          have hFt : FitsA ((u, p, (n : Int), (v0, m0), (v1, m1), (v2, m2), (v3, m3)) : Atm) := by
            refine ⟨by show u.length ≤ maxLen; unfold maxLen; omega, by show p.length ≤ maxLen; unfold maxLen; omega, fun x hx => ?_⟩
            have hx' : x ∈ [(v0, m0), (v1, m1), (v2, m2), (v3, m3)] := hx
            simp only [List.mem_cons, List.not_mem_nil, or_false] at hx'
            unfold maxLen
            rcases hx' with rfl | rfl | rfl | rfl <;> (simp only; omega)
          have hA2 : BlkA (wr.setCell ⟨nb, 2, none⟩ (.int .i64 (n : Int))) nb (u, p, (n : Int), (v0, m0), (v1, m1), (v2, m2), (v3, m3)) := hAj.set rfl
          have hB2 : BlkA (wr.setCell ⟨nb, 2, none⟩ (.int .i64 (n : Int))) w.heap.size zeroAtm := hBj.far (Nat.ne_of_lt hgl3) _
          have hR2 : Cur (wr.setCell ⟨nb, 2, none⟩ (.int .i64 (n : Int))) g s j false := hRj.far (fun e => hnn (congrArg some e.symm)) _
          have hg2 : w.grownBy (wr.setCell ⟨nb, 2, none⟩ (.int .i64 (n : Int))) (some g) := gfar hgj (Nat.le_of_lt hgl3) _
          have HCK := Lib.hid (fun W => rcheck_any u p (n : Int) v0 v1 v2 v3 m0 m1 m2 m3 W hFt)
          obtain ⟨z0, z1, z2, z3, z4, z5, z6, z7, z8, z9, z10⟩ := hAj.box.all
          have hlB := hAj.lt
          have hfB := hAj.free
          have hlg := hRj.lt
          have hfg := hRj.free
          clear hres hA hRE hpad hnl hFt ht0 ht1 ht2 ht3 hBj hAj
          go_wp2_with fail
          refine (HCK.out _).mono ?_
          rintro e w9 ⟨rfl, hb9⟩
          generalize checkA ((u, p, (n : Int), (v0, m0), (v1, m1), (v2, m2), (v3, m3)) : Atm) = kk at *
          have hA9 := hA2.next hb9
          have hB9 := hB2.next hb9
          have hR9 := hR2.next hb9
          have hg9 := gsince hg2 hb9
          have hl9 := hR9.lt
          have hf9 := hR9.free
          have c9 := hR9.c2f
          clear hB2 hR2 hA2 hg2 HCK hb9 z0 z1 z2 z3 z4 z5 z6 z7 z8 z9 z10
          cases hk9 : (kk != 0)
          case true =>
            have HP : Hid (∀ W, Cur W g s j true → w.grownBy W (some g) → CAtomPost s i bad g w (.returned (.agg (atmC zeroAtm))) W) := by
              intro W h1 h2
              unfold CAtomPost
              rw [HA2.out, hk9, if_pos rfl]; exact ⟨rfl, h1, h2⟩
            have HBK : Hid ((w9.setCell ⟨g, 2, none⟩ (.int .i64 15)).heap[w.heap.size]? = some (.cells (atmC zeroAtm) 27 (0, 0))) := hB9.far hne (.int .i64 15)
            have hone : Hid ((#[.string ⟨#[]⟩, .string ⟨#[]⟩, .int .i64 0, .bool false, .string ⟨#[]⟩, .bool false, .string ⟨#[]⟩, .bool false, .string ⟨#[]⟩, .bool false, .string ⟨#[]⟩] : Array Value).all (·.oneCell') = true) := by show _ = _; simp [Value.oneCell']
            have HBX : Hid (Box ((w9.setCell ⟨g, 2, none⟩ (.int .i64 15)).setRow w.heap.size #[.string ⟨#[]⟩, .string ⟨#[]⟩, .int .i64 0, .bool false, .string ⟨#[]⟩, .bool false, .string ⟨#[]⟩, .bool false, .string ⟨#[]⟩, .bool false, .string ⟨#[]⟩]) w.heap.size zeroAtm) := (BlkA.row (a := zeroAtm) HBK.out zeroAtm).box
            clear HA2
            go_wp2_with (refine wpList_store_row rfl 27 (.tmp 2) (.tmp 62) rfl w.heap.size #[.string ⟨#[]⟩, .string ⟨#[]⟩, .int .i64 0, .bool false, .string ⟨#[]⟩, .bool false, .string ⟨#[]⟩, .bool false, .string ⟨#[]⟩, .bool false, .string ⟨#[]⟩] rfl rfl 27 (atmC zeroAtm) HBK.out ainfoA rfl hone.out ?_)
            obtain ⟨e0, e1, e2, e3, e4, e5, e6, e7, e8, e9, e10⟩ := HBX.out.all
            refine bodyPost_ret (v := .agg #[.string ⟨#[]⟩, .string ⟨#[]⟩, .int .i64 0, .bool false, .string ⟨#[]⟩, .bool false, .string ⟨#[]⟩, .bool false, .string ⟨#[]⟩, .bool false, .string ⟨#[]⟩]) (by simp [results, Tryd.results38, go_sem, e0, e1, e2, e3, e4, e5, e6, e7, e8, e9, e10, zeroAtm]) rfl ?_
            exact HP.out _ (hR9.set2t.row (fun e => hne e.symm) _) (grow_row (gset hg9 _ _) (Nat.le_refl _) _)
          case false =>
            have HP : Hid (∀ W, Cur W g s j false → w.grownBy W (some g) → CAtomPost s i bad g w (.returned (.agg #[.string ⟨u.toArray⟩, .string ⟨p.toArray⟩, .int .i64 (n : Int), .bool v0, .string ⟨m0.toArray⟩, .bool v1, .string ⟨m1.toArray⟩, .bool v2, .string ⟨m2.toArray⟩, .bool v3, .string ⟨m3.toArray⟩])) W) := by
              intro W h1 h2
              unfold CAtomPost
              rw [HA2.out, hk9, if_neg (by simp)]; exact ⟨rfl, h1, h2⟩
            have HBK : Hid (w9.heap[w.heap.size]? = some (.cells (atmC zeroAtm) 27 (0, 0))) := hB9
            have hone : Hid ((#[.string ⟨u.toArray⟩, .string ⟨p.toArray⟩, .int .i64 (n : Int), .bool v0, .string ⟨m0.toArray⟩, .bool v1, .string ⟨m1.toArray⟩, .bool v2, .string ⟨m2.toArray⟩, .bool v3, .string ⟨m3.toArray⟩] : Array Value).all (·.oneCell') = true) := by show _ = _; simp [Value.oneCell']
            have HBX : Hid (Box (w9.setRow w.heap.size #[.string ⟨u.toArray⟩, .string ⟨p.toArray⟩, .int .i64 (n : Int), .bool v0, .string ⟨m0.toArray⟩, .bool v1, .string ⟨m1.toArray⟩, .bool v2, .string ⟨m2.toArray⟩, .bool v3, .string ⟨m3.toArray⟩]) w.heap.size ((u, p, (n : Int), (v0, m0), (v1, m1), (v2, m2), (v3, m3)) : Atm)) := (BlkA.row (a := zeroAtm) hB9 ((u, p, (n : Int), (v0, m0), (v1, m1), (v2, m2), (v3, m3)) : Atm)).box
            obtain ⟨z0, z1, z2, z3, z4, z5, z6, z7, z8, z9, z10⟩ := hA9.box.all
            clear HA2
            go_wp2_with (refine wpList_store_row rfl 27 (.tmp 2) (.tmp 63) rfl w.heap.size #[.string ⟨u.toArray⟩, .string ⟨p.toArray⟩, .int .i64 (n : Int), .bool v0, .string ⟨m0.toArray⟩, .bool v1, .string ⟨m1.toArray⟩, .bool v2, .string ⟨m2.toArray⟩, .bool v3, .string ⟨m3.toArray⟩] rfl rfl 27 (atmC zeroAtm) HBK.out ainfoA rfl hone.out ?_)
            obtain ⟨e0, e1, e2, e3, e4, e5, e6, e7, e8, e9, e10⟩ := HBX.out.all
            refine bodyPost_ret (v := .agg #[.string ⟨u.toArray⟩, .string ⟨p.toArray⟩, .int .i64 (n : Int), .bool v0, .string ⟨m0.toArray⟩, .bool v1, .string ⟨m1.toArray⟩, .bool v2, .string ⟨m2.toArray⟩, .bool v3, .string ⟨m3.toArray⟩]) (by simp [results, Tryd.results38, go_sem, e0, e1, e2, e3, e4, e5, e6, e7, e8, e9, e10]) rfl ?_
            exact HP.out _ (hR9.row (fun e => hne e.symm) _) (grow_row hg9 (Nat.le_refl _) _)
        · have c2 := hRj.c2t
          have hRE : Hid (R = (L, j, true)) := by
            show _ = _
            rw [hres.out, rnamesS_bad]; simp
          have HP : Hid (∀ W, Cur W g s j true → w.grownBy W (some g) → CAtomPost s i bad g w (.returned (.agg (atmC zeroAtm))) W) := by
            intro W h1 h2
            unfold CAtomPost
            rw [hA.out, hRE.out, if_pos (by simp)]; exact ⟨rfl, h1, h2⟩
          have HBK : Hid (wr.heap[w.heap.size]? = some (.cells (atmC zeroAtm) 27 (0, 0))) := hBj
          have hone : Hid ((#[.string ⟨#[]⟩, .string ⟨#[]⟩, .int .i64 0, .bool false, .string ⟨#[]⟩, .bool false, .string ⟨#[]⟩, .bool false, .string ⟨#[]⟩, .bool false, .string ⟨#[]⟩] : Array Value).all (·.oneCell') = true) := by show _ = _; simp [Value.oneCell']
          have hbx : Box (wr.setRow w.heap.size #[.string ⟨#[]⟩, .string ⟨#[]⟩, .int .i64 0, .bool false, .string ⟨#[]⟩, .bool false, .string ⟨#[]⟩, .bool false, .string ⟨#[]⟩, .bool false, .string ⟨#[]⟩]) w.heap.size zeroAtm := (BlkA.row (a := zeroAtm) hBj zeroAtm).box
          have HBX := Lib.hid hbx
          clear hres hA hRE hBj hAj hbx
          go_wp2_with (refine wpList_store_row rfl 27 (.tmp 2) (.tmp 52) rfl w.heap.size #[.string ⟨#[]⟩, .string ⟨#[]⟩, .int .i64 0, .bool false, .string ⟨#[]⟩, .bool false, .string ⟨#[]⟩, .bool false, .string ⟨#[]⟩, .bool false, .string ⟨#[]⟩] rfl rfl 27 (atmC zeroAtm) HBK.out ainfoA rfl hone.out ?_)
          obtain ⟨e0, e1, e2, e3, e4, e5, e6, e7, e8, e9, e10⟩ := HBX.out.all
          refine bodyPost_ret (v := .agg #[.string ⟨#[]⟩, .string ⟨#[]⟩, .int .i64 0, .bool false, .string ⟨#[]⟩, .bool false, .string ⟨#[]⟩, .bool false, .string ⟨#[]⟩, .bool false, .string ⟨#[]⟩]) (by simp [results, Tryd.results38, go_sem, e0, e1, e2, e3, e4, e5, e6, e7, e8, e9, e10, zeroAtm]) rfl ?_
          exact HP.out _ (hRj.row (fun e => hne e.symm) _) (grow_row hgj (Nat.le_refl _) _)
end Go.Proofs.YtiadjmfdahendaaDoor
