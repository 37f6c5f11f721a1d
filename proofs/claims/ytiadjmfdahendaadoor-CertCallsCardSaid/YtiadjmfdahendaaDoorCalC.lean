/- The reference's Read (under way). CertCalls returns true at every number, atom, list of steps and bytes, in every world in which the library's table strings.asciiSpace stands. -/
import Derived.Test.YtiadjmfdahendaaDoorCurM
import Derived.Test.YtiadjmfdahendaaDoorCurQ
import Derived.Test.YtiadjmfdahendaaDoorCertR
import Derived.Test.YtiadjmfdahendaaDoorCutW
import Derived.Test.YtiadjmfdahendaaDoorCurD
namespace Go.Proofs.YtiadjmfdahendaaDoor
open Go.RowKit

/-- What stands behind the append of a cite, told ahead of its store. -/
theorem steptailC {w w8 w9 : World} {g : Nat} {s : List UInt8} {j1 : Nat} {b1 : Bool} {x : Stp} {cv v9 : Value} {m v : Nat} {L : List Nat} (hB : BlkS w8 w.heap.size x cv) (hR : Cur w8 g s j1 b1) (ho : w8.ownsRow (w.heap.size + 1) 3 1 cv m (L.map natV)) (hg : w.grownBy w8 (some g))
    {t : TypeId} (hg9 : (w8.alloc (.cells #[natV v] t)).grownBy w9 cv.ownBlock) (h9 : w9.ownsRow (w.heap.size + 1) 3 1 v9 (m + 1) (L.map natV ++ [natV v])) (hgw : g < w.heap.size) :
    ∃ g9 c9, v9 = .slice (some ⟨g9, 0, none⟩) (m + 1) c9 ∧ w9.cell? ⟨w.heap.size, 12, none⟩ = some cv ∧ w9.frozen? ⟨w.heap.size, 12, none⟩ = false ∧ w.heap.size < w9.heap.size ∧
      Hid (∀ W, W = w9.setCell ⟨w.heap.size, 12, none⟩ (.slice (some ⟨g9, 0, none⟩) (m + 1) c9) → Cur W g s j1 b1 ∧ BlkS W w.heap.size x (.slice (some ⟨g9, 0, none⟩) (m + 1) c9) ∧ W.ownsRow (w.heap.size + 1) 3 1 (.slice (some ⟨g9, 0, none⟩) (m + 1) c9) (m + 1) ((L ++ [v]).map natV) ∧ w.grownBy W (some g)) := by
  have hcv : ∀ b, cv.ownBlock = some b → w.heap.size + 1 ≤ b := fun b hb => (ho.lt b hb).1
  have hB9 := (hB.next ((Since.refl _).alloc (.cells #[natV v] t))).grown hg9 (fun e => by have := hcv _ e.symm; omega)
  have hR9 := (hR.next ((Since.refl _).alloc (.cells #[natV v] t))).grown hg9 (fun e => by have := hcv _ e.symm; omega)
  have hgg : w.grownBy w9 (some g) := gown (gsince hg ((Since.refl _).alloc (.cells #[natV v] t))) hg9 (fun b hb => by have := hcv b hb; omega)
  obtain ⟨g9, c9, rfl⟩ := Joins.ownsRow_form h9 (by omega)
  refine ⟨g9, c9, rfl, hB9.cell 12, hB9.free 12, hB9.lt, fun W hW => ?_⟩
  subst hW
  refine ⟨hR9.far (by show g ≠ w.heap.size; omega) _, hB9.set rfl, ?_, gfar hgg (Nat.le_refl _) _⟩
  rw [List.map_append]
  exact ownsRow_setCell_below h9 (Nat.lt_succ_self _) _
/-- What stands behind the append of a step. -/
theorem readtailC {w w8 w9 : World} {s : List UInt8} {j1 : Nat} {b : Bool} {v v9 sv : Value} {P : List (Stp × Value)} {x : Stp} (how : OutRow w8 (w.heap.size + 1) v P) (hR : Cur w8 w.heap.size s j1 b) (hS : Since w w8) (hsv : w8.ownsRow (w.heap.size + 1) 3 1 sv x.2.2.length (x.2.2.map intV))
    {t : TypeId} (hg : (w8.alloc (.cells (stpA x sv) t)).grownBy w9 v.ownBlock) (h9 : w9.ownsRow (w.heap.size + 1) 39 13 v9 (P.length + 1) (rowP P ++ (stpA x sv).toList)) :
    OutRow w9 (w.heap.size + 1) v9 (P ++ [(x, sv)]) ∧ Cur w9 w.heap.size s j1 b ∧ Since w w9 := by
  have hA : Since w8 (w8.alloc (.cells (stpA x sv) t)) := (Since.refl _).alloc _
  have hb : ∀ k, v.ownBlock = some k → w.heap.size + 1 ≤ k := fun k hk => (how.1.lt k hk).1
  have hS8 := hS.trans hA
  refine ⟨(how.next hA (Nat.succ_pos _)).push (own_far hsv (gsince (World.grownBy.refl _ (some 0)) hA) (Nat.succ_pos _)) h9 hg, (hR.next hA).grown hg (fun e => by have := hb _ e.symm; omega), ?_⟩
  exact Below.grown hS8 hg hS8.size fun k hk => by have := hb k hk; omega
theorem fits_light {a : Atm} (h : lightB a = true) : FitsA a := by
  simp only [lightB, Bool.and_eq_true, decide_eq_true_eq, List.all_eq_true] at h
  obtain ⟨⟨h1, h2⟩, h3⟩ := h
  refine ⟨by have : (a.1.length : Int) ≤ 300 := h1; unfold maxLen; omega, by have : (a.2.1.length : Int) ≤ 300 := h2; unfold maxLen; omega, fun t ht => ?_⟩
  have := h3 t ht
  have h4 : (t.2.length : Int) ≤ 300 := by simpa using this
  unfold maxLen; omega
set_option maxHeartbeats 4000000 in
set_option maxRecDepth 100000 in
theorem rread_any (s : List UInt8) (w : World) (hs : s.length ≤ 9000) :
    Calls Tryd.prog 25 #[.string ⟨s.toArray⟩] w (ReadPost s w) := by
  have hs6 : s.length ≤ 1000000 := by omega
  have HN := Lib.hid (fun (W : World) (h : Cur W w.heap.size s 0 false) => curnum_any s 0 false w.heap.size W hs6 (Nat.zero_le _) h)
  have l0 := (numS_le (s := s) (bad := false) (Nat.zero_le _)).2
  have n0 := (numS_le (s := s) (bad := false) (Nat.zero_le _)).1
  have hRS : readS s = if (rstepsS s (numS s 0 false).1 (numS s 0 false).2.1 (numS s 0 false).2.2).2.2 || !maysB (rstepsS s (numS s 0 false).1 (numS s 0 false).2.1 (numS s 0 false).2.2).1 || decide (stepsB (rstepsS s (numS s 0 false).1 (numS s 0 false).2.1 (numS s 0 false).2.2).1 ≠ s) then none else some (rstepsS s (numS s 0 false).1 (numS s 0 false).2.1 (numS s 0 false).2.2).1 := by
    rw [← rread_eq]; rfl
  unfold CNumPost at HN
  generalize numS s 0 false = M at *
  obtain ⟨n, i3, b3⟩ := M
  simp only at HN l0 n0 hRS
  obtain ⟨q, hq⟩ : ∃ q, Hid (q = rstepsS s n i3 b3) := ⟨_, rfl⟩
  rw [← hq.out] at hRS
  have HRS := Lib.hid hRS
  clear hRS
  have hfar : (q.1.flatMap stepB).length ≤ s.length + 2110 ∧ q.1.length ≤ s.length + 1 := by
    rw [hq.out]
    cases b3
    · obtain ⟨h1, h2⟩ := rstepsS_far (s := s) n i3 l0
      exact ⟨by omega, by omega⟩
    · rw [rstepsS_bad]; exact ⟨by simp, by simp⟩
  have HFAR := Lib.hid hfar
  have hR1 : Cur (w.alloc (.cells #[.string ⟨s.toArray⟩, .int .i64 0, .int .i64 0] 73)) w.heap.size s 0 false := heap_alloc_new w _
  have hg1 : Since w (w.alloc (.cells #[.string ⟨s.toArray⟩, .int .i64 0, .int .i64 0] 73)) := (Since.refl _).alloc _
  clear hfar
  go_enter Tryd.func25, Tryd.ntmps25
  go_wp2_with fail
  refine (HN.out _ hR1).mono ?_
  rintro e w2 ⟨rfl, hR2, hg2⟩
  have hS2 : Since w w2 := since_far hg1 hg2 (Nat.le_refl _)
  have how2 : OutRow w2 (w.heap.size + 1) (.slice none 0 0) [] := OutRow.nil _ _
  have hq0 : Hid (q = ((([] : List (Stp × Value)).map Prod.fst) ++ (rstepsS s (n - 0) i3 b3).1, (rstepsS s (n - 0) i3 b3).2)) := hq.out
  obtain ⟨i0, hi0, hz0, hz1, hz2⟩ := info_parts stpInfo3
  have HI := Lib.hid (And.intro hi0 (And.intro hz0 (And.intro hz1 hz2)))
  obtain ⟨i9, hi9, hy0, hy1, hy2⟩ := info_parts infoInt
  have HI9 := Lib.hid (And.intro hi9 (And.intro hy0 (And.intro hy1 hy2)))
  clear hi0 hz0 hz1 hz2 hi9 hy0 hy1 hy2 hR1 hg1 hg2 hq HN
  go_wp2_with fail
  go_loopw [6, 7] (fun v x wr => ∃ (k : Nat) (P : List (Stp × Value)) (j : Nat) (bb : Bool), k ≤ n ∧ P.length = k ∧ x = .int .u32 (k : Int) ∧ j ≤ s.length ∧ k ≤ s.length + 1 ∧ (bb = false → k ≤ j) ∧ Cur wr w.heap.size s j bb ∧ OutRow wr (w.heap.size + 1) v P ∧ Since w wr ∧ Hid (∀ y ∈ P.map Prod.fst, lightB y.1 = true ∧ y.2.2.length ≤ 17) ∧ Hid (q = (P.map Prod.fst ++ (rstepsS s (n - k) j bb).1, (rstepsS s (n - k) j bb).2))) (fun _ x _ => n - (intOf x).toNat)
  case atStart => exact ⟨0, [], i3, b3, by omega, rfl, rfl, l0, by omega, fun _ => Nat.zero_le _, hR2, how2, hS2, (fun y hy => by simp at hy), hq0.out⟩
  case round =>
    clear hR2 how2 hS2 hq0
    obtain ⟨k, P, j, bb, hk, hP, rfl, hj, hks, hkj, hRj, how, hSj, hlig, hres⟩ := hrel
    have HP := Lib.hid hP
    clear hP
    by_cases hgo : k < n ∧ bb = false
    · obtain ⟨hlt, rfl⟩ := hgo
      have hlti : (k : Int) < (n : Int) := by omega
      have c2 := hRj.c2f
      have hkj2 := hkj rfl
      have lX := rstepS_le (s := s) (bad := false) hj
      have fX := rstepS_far (s := s) hj
      have gX := rstep_light s j false
      have hST : rstepS s j false = (((ratomS s (numS s j false).2.1 (numS s j false).2.2).1, ((numS s j false).1 : Int) - 1, (natsS s (min (numS s (ratomS s (numS s j false).2.1 (numS s j false).2.2).2.1 (ratomS s (numS s j false).2.1 (numS s j false).2.2).2.2).1 17) (numS s (ratomS s (numS s j false).2.1 (numS s j false).2.2).2.1 (ratomS s (numS s j false).2.1 (numS s j false).2.2).2.2).2.1 (numS s (ratomS s (numS s j false).2.1 (numS s j false).2.2).2.1 (ratomS s (numS s j false).2.1 (numS s j false).2.2).2.2).2.2).1.map fun x : Nat => (x : Int)), (natsS s (min (numS s (ratomS s (numS s j false).2.1 (numS s j false).2.2).2.1 (ratomS s (numS s j false).2.1 (numS s j false).2.2).2.2).1 17) (numS s (ratomS s (numS s j false).2.1 (numS s j false).2.2).2.1 (ratomS s (numS s j false).2.1 (numS s j false).2.2).2.2).2.1 (numS s (ratomS s (numS s j false).2.1 (numS s j false).2.2).2.1 (ratomS s (numS s j false).2.1 (numS s j false).2.2).2.2).2.2).2) := rfl
      obtain ⟨X, hX⟩ : ∃ X, Hid (X = rstepS s j false) := ⟨_, rfl⟩
      have hres2 : Hid (q = (((P.map Prod.fst) ++ [X.1]) ++ (rstepsS s (n - (k + 1)) X.2.1 X.2.2).1, (rstepsS s (n - (k + 1)) X.2.1 X.2.2).2)) := by
        have hnn : n - k = (n - (k + 1)) + 1 := by omega
        have h := hres.out
        rw [hnn, rstepsS, if_neg (by simp)] at h
        simp only at h
        rw [← hX.out] at h
        show _ = _
        rw [h]; simp
      rw [← hX.out] at lX fX gX hST
      have HC1 := Lib.hid (fun W h => curnum_any s j false w.heap.size W hs6 hj h)
      have l1 := (numS_le (s := s) (bad := false) hj).2
      have n1 := (numS_le (s := s) (bad := false) hj).1
      unfold CNumPost at HC1
      generalize numS s j false = C at *
      obtain ⟨c, j1, b1⟩ := C
      simp only at HC1 l1 n1 hST
      have HA2 := Lib.hid (fun W h => curatom_any s j1 b1 w.heap.size W hs6 l1 h)
      have l2 := ratomS_le (s := s) (bad := b1) l1
      unfold CAtomPost at HA2
      generalize ratomS s j1 b1 = A at *
      obtain ⟨⟨u, p, nn, ⟨v0, m0⟩, ⟨v1, m1⟩, ⟨v2, m2⟩, ⟨v3, m3⟩⟩, j2, b2⟩ := A
      simp only [atmC] at HA2 l2 hST
      have HN3 := Lib.hid (fun W h => curnum_any s j2 b2 w.heap.size W hs6 l2 h)
      have l3 := (numS_le (s := s) (bad := b2) l2).2
      have n3 := (numS_le (s := s) (bad := b2) l2).1
      unfold CNumPost at HN3
      generalize numS s j2 b2 = M3 at *
      obtain ⟨mk, j3, b4⟩ := M3
      simp only at HN3 l3 n3 hST
      have HST := Lib.hid hST
      have FX := Lib.hid fX
      have GX := Lib.hid gX
      have LX := Lib.hid lX
      have ec : IntKind.i64.wrap (c : Int) = (c : Int) := IntWalk.i64_in _ (by omega)
      have ec1 : IntKind.i64.wrap ((c : Int) - 1) = (c : Int) - 1 := IntWalk.i64_in _ (by omega)
      clear hX hres hST fX gX lX
      go_wp2_with fail
      refine (HC1.out _ hRj).mono ?_
      rintro e w3 ⟨rfl, hR3, hg3⟩
      go_wp2_with fail
      refine (HA2.out _ hR3).mono ?_
      rintro e w5 ⟨rfl, hR5, hg5⟩
      replace hg5 := gtrans hg3 hg5
      have how5 : OutRow w5 (w.heap.size + 1) u6 P := how.far hg5 (Nat.lt_succ_self _)
      have hS5 : Since w w5 := since_far hSj hg5 (Nat.le_refl _)
      have hgl5 := hR5.lt
      have HZ : Hid ((w5.alloc (.cells #[.string ⟨#[]⟩, .string ⟨#[]⟩, .int .i64 0, .bool false, .string ⟨#[]⟩, .bool false, .string ⟨#[]⟩, .bool false, .string ⟨#[]⟩, .bool false, .string ⟨#[]⟩, .int .i64 0, .slice none 0 0] 39)).heap[w5.heap.size]? = some (.cells #[.string ⟨#[]⟩, .string ⟨#[]⟩, .int .i64 0, .bool false, .string ⟨#[]⟩, .bool false, .string ⟨#[]⟩, .bool false, .string ⟨#[]⟩, .bool false, .string ⟨#[]⟩, .int .i64 0, .slice none 0 0] 39 (0, 0))) := heap_alloc_new w5 _
      have hone : Hid ((#[.string ⟨u.toArray⟩, .string ⟨p.toArray⟩, .int .i64 nn, .bool v0, .string ⟨m0.toArray⟩, .bool v1, .string ⟨m1.toArray⟩, .bool v2, .string ⟨m2.toArray⟩, .bool v3, .string ⟨m3.toArray⟩, .int .i64 ((c : Int) - 1), .slice none 0 0] : Array Value).all (·.oneCell') = true) := by show _ = _; simp [Value.oneCell']
      have hB6 : BlkS ((w5.alloc (.cells #[.string ⟨#[]⟩, .string ⟨#[]⟩, .int .i64 0, .bool false, .string ⟨#[]⟩, .bool false, .string ⟨#[]⟩, .bool false, .string ⟨#[]⟩, .bool false, .string ⟨#[]⟩, .int .i64 0, .slice none 0 0] 39)).setRow w5.heap.size #[.string ⟨u.toArray⟩, .string ⟨p.toArray⟩, .int .i64 nn, .bool v0, .string ⟨m0.toArray⟩, .bool v1, .string ⟨m1.toArray⟩, .bool v2, .string ⟨m2.toArray⟩, .bool v3, .string ⟨m3.toArray⟩, .int .i64 ((c : Int) - 1), .slice none 0 0]) w5.heap.size ((u, p, nn, (v0, m0), (v1, m1), (v2, m2), (v3, m3)), (c : Int) - 1, []) (.slice none 0 0) := setRow_heap _ _ _ _ _ (0, 0) HZ.out
      have hs56 : Since w5 ((w5.alloc (.cells #[.string ⟨#[]⟩, .string ⟨#[]⟩, .int .i64 0, .bool false, .string ⟨#[]⟩, .bool false, .string ⟨#[]⟩, .bool false, .string ⟨#[]⟩, .bool false, .string ⟨#[]⟩, .int .i64 0, .slice none 0 0] 39)).setRow w5.heap.size #[.string ⟨u.toArray⟩, .string ⟨p.toArray⟩, .int .i64 nn, .bool v0, .string ⟨m0.toArray⟩, .bool v1, .string ⟨m1.toArray⟩, .bool v2, .string ⟨m2.toArray⟩, .bool v3, .string ⟨m3.toArray⟩, .int .i64 ((c : Int) - 1), .slice none 0 0]) := since_row ((Since.refl _).alloc _) (Nat.le_refl _) _
      have hR6 := hR5.next hs56
      have hg6 : w5.grownBy ((w5.alloc (.cells #[.string ⟨#[]⟩, .string ⟨#[]⟩, .int .i64 0, .bool false, .string ⟨#[]⟩, .bool false, .string ⟨#[]⟩, .bool false, .string ⟨#[]⟩, .bool false, .string ⟨#[]⟩, .int .i64 0, .slice none 0 0] 39)).setRow w5.heap.size #[.string ⟨u.toArray⟩, .string ⟨p.toArray⟩, .int .i64 nn, .bool v0, .string ⟨m0.toArray⟩, .bool v1, .string ⟨m1.toArray⟩, .bool v2, .string ⟨m2.toArray⟩, .bool v3, .string ⟨m3.toArray⟩, .int .i64 ((c : Int) - 1), .slice none 0 0]) (some w.heap.size) := gsince (World.grownBy.refl _ _) hs56
      clear hR3 hg3 hg5 hRj HC1 HA2 hR5 hs56 hSj how
      go_wp2_with (refine wpList_store_row rfl 39 (.tmp 8) (.tmp 36) rfl w5.heap.size #[.string ⟨u.toArray⟩, .string ⟨p.toArray⟩, .int .i64 nn, .bool v0, .string ⟨m0.toArray⟩, .bool v1, .string ⟨m1.toArray⟩, .bool v2, .string ⟨m2.toArray⟩, .bool v3, .string ⟨m3.toArray⟩, .int .i64 ((c : Int) - 1), .slice none 0 0] rfl rfl 39 #[.string ⟨#[]⟩, .string ⟨#[]⟩, .int .i64 0, .bool false, .string ⟨#[]⟩, .bool false, .string ⟨#[]⟩, .bool false, .string ⟨#[]⟩, .bool false, .string ⟨#[]⟩, .int .i64 0, .slice none 0 0] HZ.out stpInfo rfl hone.out ?_)
      generalize (w5.alloc (.cells #[.string ⟨#[]⟩, .string ⟨#[]⟩, .int .i64 0, .bool false, .string ⟨#[]⟩, .bool false, .string ⟨#[]⟩, .bool false, .string ⟨#[]⟩, .bool false, .string ⟨#[]⟩, .int .i64 0, .slice none 0 0] 39)).setRow w5.heap.size #[.string ⟨u.toArray⟩, .string ⟨p.toArray⟩, .int .i64 nn, .bool v0, .string ⟨m0.toArray⟩, .bool v1, .string ⟨m1.toArray⟩, .bool v2, .string ⟨m2.toArray⟩, .bool v3, .string ⟨m3.toArray⟩, .int .i64 ((c : Int) - 1), .slice none 0 0] = w6 at *
      refine (HN3.out _ hR6).mono ?_
      rintro e w7 ⟨rfl, hR7, hg7⟩
      have hB7 := hB6.grown hg7 (fun e => by injection e with e; omega)
      have hg77 := gtrans hg6 hg7
      clear hB6 hR6 hg6 hg7 HN3 hone HZ
      obtain ⟨Q, hQ⟩ : ∃ Q, Hid (Q = natsS s (min mk 17) j3 b4) := ⟨_, rfl⟩
      have HST2 : Hid (X = (((u, p, nn, (v0, m0), (v1, m1), (v2, m2), (v3, m3)), (c : Int) - 1, Q.1.map fun x : Nat => (x : Int)), Q.2)) := by
        show _ = _
        rw [HST.out, hQ.out]
      have hQ0 : Hid (Q = (([] : List Nat) ++ (natsS s (min mk 17 - 0) j3 b4).1, (natsS s (min mk 17 - 0) j3 b4).2)) := hQ.out
      have how7 : w7.ownsRow (w5.heap.size + 1) 3 1 (.slice none 0 0) 0 [] := World.ownsRow_nil _ _ _ _
      clear HST hQ
      go_wp2_with fail
      go_loopw [10] (fun x wr => ∃ (m : Nat) (cv : Value) (L : List Nat) (j : Nat) (bb : Bool), m ≤ min mk 17 ∧ L.length = m ∧ x = .int .u32 (m : Int) ∧ j ≤ s.length ∧ Cur wr w.heap.size s j bb ∧ BlkS wr w5.heap.size ((u, p, nn, (v0, m0), (v1, m1), (v2, m2), (v3, m3)), (c : Int) - 1, []) cv ∧ wr.ownsRow (w5.heap.size + 1) 3 1 cv m (L.map natV) ∧ w5.grownBy wr (some w.heap.size) ∧ Hid (Q = (L ++ (natsS s (min mk 17 - m) j bb).1, (natsS s (min mk 17 - m) j bb).2))) (fun x _ => min mk 17 - (intOf x).toNat)
      case atStart => exact ⟨0, .slice none 0 0, [], j3, b4, by omega, rfl, rfl, l3, hR7, hB7, how7, hg77, hQ0.out⟩
      case round =>
        clear hR7 hB7 how7 hg77 hQ0
        obtain ⟨m, cv, Lc, j9, bb, hm, hLm, rfl, hj9, hRj, hBj, howc, hgj, hresc⟩ := hrel
        have HLM := Lib.hid hLm
        clear hLm
        have hrg : some w5.heap.size ≠ some w.heap.size := fun e => by injection e with e; omega
        have z12 : wr.cell? ⟨w5.heap.size, 12, none⟩ = some cv := hBj.cell 12
        have hltB := hBj.lt
        have hlg := hRj.lt
        by_cases hgo2 : m < min mk 17 ∧ bb = false
        · obtain ⟨hltm, rfl⟩ := hgo2
          have hm1 : (m : Int) < (mk : Int) := by omega
          have hm2 : (m : Int) < 17 := by omega
          have c2 := hRj.c2f
          obtain ⟨N, hN⟩ : ∃ N, Hid (N = numS s j9 false) := ⟨_, rfl⟩
          have HNM := Lib.hid (fun W h => curnum_any s j9 false w.heap.size W hs6 hj9 h)
          have lN := (numS_le (bad := false) hj9).2
          have nN := (numS_le (bad := false) hj9).1
          unfold CNumPost at HNM
          rw [← hN.out] at HNM lN nN
          obtain ⟨v, j1', b1'⟩ := N
          simp only at HNM lN nN
          have hres3 : Hid (Q = ((Lc ++ [v]) ++ (natsS s (min mk 17 - (m + 1)) j1' b1').1, (natsS s (min mk 17 - (m + 1)) j1' b1').2)) := by
            have hnn : min mk 17 - m = (min mk 17 - (m + 1)) + 1 := by omega
            have h := hresc.out
            rw [hnn, natsS, if_neg (by simp)] at h
            simp only at h
            rw [← hN.out] at h
            show _ = _
            rw [h]; simp
          have ev : IntKind.i64.wrap (v : Int) = (v : Int) := IntWalk.i64_in _ (by omega)
          have hRjd : Cur wr.drew w.heap.size s j9 false := hRj
          have hBjd : BlkS wr.drew w5.heap.size ((u, p, nn, (v0, m0), (v1, m1), (v2, m2), (v3, m3)), (c : Int) - 1, []) cv := hBj
          have howd : wr.drew.ownsRow (w5.heap.size + 1) 3 1 cv m (Lc.map natV) := howc
          have hgjd : w5.grownBy wr.drew (some w.heap.size) := gdrew hgj
          clear hresc hN
          go_wp2_with fail
          go_region_law (first
            | (go_simp; go_at_call 40; (with_reducible refine Calls.mono (HNM.out _ ?_) ?_); exact hRjd; rintro e w8 ⟨rfl, hR8, hg8⟩; have hB8 := hBjd.grown hg8 hrg; have y12 : w8.cell? ⟨w5.heap.size, 12, none⟩ = some cv := hB8.cell 12; have ho8 : w8.ownsRow (w5.heap.size + 1) 3 1 cv m (Lc.map natV) := own_far howd hg8 (by omega); have hz8 : w5.heap.size + 1 ≤ w8.heap.size := hB8.lt; have hgg8 := gtrans hgjd hg8; have hz8' : w5.heap.size < w8.heap.size := hz8; have y12a : (w8.alloc (.cells #[.int .i64 (v : Int)] 3)).cell? ⟨w5.heap.size, 12, none⟩ = some cv := Since.cell ((Since.refl _).alloc _) y12)
            | ((refine step_append_own rfl (.tmp 56) (.tmp 60) 37 rfl (w5.heap.size + 1) 3 i9 (.int .i64 0) 1 8 Tryd.underlying37 HI9.out.1 HI9.out.2.1 HI9.out.2.2.1 HI9.out.2.2.2 rfl (by decide) cv m (Lc.map natV) rfl (ho8.alloc _) ⟨w8.heap.size, 0, none⟩ 1 1 [natV v] rfl rfl (cell_one_new _ _ _) (by simp [natV, Value.oneCell']) (by unfold maxLen; omega) (by omega) (by simp; omega) ?_); intro v9 w9 hown9 hg9 _; have hx9 := steptailC hB8 hR8 ho8 hgg8 hg9 hown9 hgl5; clear hown9 hg9; obtain ⟨g9, c9, rfl, y12b, yf9, yl9, hX9⟩ := hx9))
          all_goals
            go_wp2_with fail
            have hX := hX9.out _ rfl
            clear hX9
            go_roundw
            case rel => exact ⟨m + 1, .slice (some ⟨g9, 0, none⟩) (m + 1) c9, Lc ++ [v], j1', b1', by omega, by simp [HLM.out], by go_num, lN, hX.1, hX.2.1, hX.2.2.1, hX.2.2.2, hres3.out⟩
            case measure => simp [intOf]; omega
        · have hQe : Q = (Lc, j9, bb) := by
            rw [hresc.out]
            by_cases hltm : m < min mk 17
            · obtain rfl : bb = true := by
                cases bb
                · exact absurd ⟨hltm, rfl⟩ hgo2
                · rfl
              rw [natsS_bad]; simp
            · rw [show min mk 17 - m = 0 by omega, natsS]; simp
          have hXe : X = (((u, p, nn, (v0, m0), (v1, m1), (v2, m2), (v3, m3)), (c : Int) - 1, Lc.map fun x : Nat => (x : Int)), j9, bb) := by rw [HST2.out, hQe]
          rw [hXe] at hres2
          have fX := FX.out
          have gX := GX.out
          have lX := LX.out
          rw [hXe] at fX gX lX
          have fX2 : bb = false → k + 1 ≤ j9 := by
            intro h
            have h1 := (fX h).1
            have hp : 0 < (stepB ((u, p, nn, (v0, m0), (v1, m1), (v2, m2), (v3, m3)), (c : Int) - 1, Lc.map fun x : Nat => (x : Int))).length := by
              rw [stepB, headB]
              simp only [List.length_append]
              have := numF_pos 4 (((c : Int) - 1) + 1).toNat
              rw [numL]
              omega
            simp only at h1
            omega
          have hlig2 : Hid (∀ y ∈ (P ++ [(((u, p, nn, (v0, m0), (v1, m1), (v2, m2), (v3, m3)), (c : Int) - 1, Lc.map fun x : Nat => (x : Int)), cv)]).map Prod.fst, lightB y.1 = true ∧ y.2.2.length ≤ 17) := by
            intro y hy
            rw [List.map_append] at hy
            rcases List.mem_append.1 hy with h | h
            · exact hlig.out y h
            · simp only [List.map_cons, List.map_nil, List.mem_singleton] at h
              rw [h]; exact gX
          have HR2 := Lib.hid hres2
          have how9 : OutRow wr (w.heap.size + 1) u6 P := how5.far hgj (Nat.lt_succ_self _)
          have hsv9 : wr.ownsRow (w.heap.size + 1) 3 1 cv (Lc.map fun x : Nat => (x : Int)).length ((Lc.map fun x : Nat => (x : Int)).map intV) := by
            have h1 := own_down howc (show w.heap.size + 1 ≤ w5.heap.size + 1 by omega)
            rw [List.length_map, List.map_map, HLM.out]
            exact h1
          have hS9 : Since w wr := since_far hS5 hgj (Nat.le_refl _)
          have hB9 : Hid (wr.heap[w5.heap.size]? = some (.cells #[.string ⟨u.toArray⟩, .string ⟨p.toArray⟩, .int .i64 nn, .bool v0, .string ⟨m0.toArray⟩, .bool v1, .string ⟨m1.toArray⟩, .bool v2, .string ⟨m2.toArray⟩, .bool v3, .string ⟨m3.toArray⟩, .int .i64 ((c : Int) - 1), cv] 39 (0, 0))) := hBj
          have hone : Hid ((#[.string ⟨u.toArray⟩, .string ⟨p.toArray⟩, .int .i64 nn, .bool v0, .string ⟨m0.toArray⟩, .bool v1, .string ⟨m1.toArray⟩, .bool v2, .string ⟨m2.toArray⟩, .bool v3, .string ⟨m3.toArray⟩, .int .i64 ((c : Int) - 1), cv] : Array Value).all (·.oneCell') = true) := by
            show _ = _
            rcases Joins.ownsRow_forms howc with ⟨rfl, _⟩ | ⟨_, _, rfl⟩ <;> simp [Value.oneCell']
          have hPl : P.length ≤ 1048576 := by rw [HP.out]; omega
          have hz8 : w.heap.size + 1 ≤ wr.heap.size := hlg
          have hR9 := hRj
          clear hresc hQe hXe fX gX lX hres2 hBj hgj how5 hS5 howc HST2 FX GX LX
          have hcs : (bb = true ∧ (m : Int) < (mk : Int) ∧ (m : Int) < 17) ∨ (bb = true ∧ (m : Int) < (mk : Int) ∧ ¬ (m : Int) < 17) ∨ (bb = true ∧ ¬ (m : Int) < (mk : Int)) ∨ (bb = false ∧ (m : Int) < (mk : Int) ∧ ¬ (m : Int) < 17) ∨ (bb = false ∧ ¬ (m : Int) < (mk : Int)) := by
            by_cases h1 : (m : Int) < (mk : Int) <;> by_cases h2 : (m : Int) < 17 <;> cases bb <;> simp only [h1, h2, not_true, not_false_iff, and_true, and_false, or_false, reduceCtorEq, or_true, and_self, or_self]
            exact hgo2 ⟨by omega, rfl⟩
          rcases hcs with ⟨rfl, hm1, hm2⟩ | ⟨rfl, hm1, hm2⟩ | ⟨rfl, hm1⟩ | ⟨rfl, hm1, hm2⟩ | ⟨rfl, hm1⟩
          all_goals
            clear hgo2
            first | have c2 := hRj.c2f | have c2 := hRj.c2t
            go_wp2_with (first
              | (refine wpList_load_row rfl 39 (.tmp 8) rfl w5.heap.size rfl 39 #[.string ⟨u.toArray⟩, .string ⟨p.toArray⟩, .int .i64 nn, .bool v0, .string ⟨m0.toArray⟩, .bool v1, .string ⟨m1.toArray⟩, .bool v2, .string ⟨m2.toArray⟩, .bool v3, .string ⟨m3.toArray⟩, .int .i64 ((c : Int) - 1), cv] (0, 0) _ hB9.out Tryd.underlying39 rfl stpInfo ?_)
              | (at_builtin; refine wpList_append_own _ rfl (.tmp 63) (.tmp 65) 22 rfl (w.heap.size + 1) 39 i0 (.agg (stpA zeroStp (.slice none 0 0))) 13 168 Tryd.underlying22 HI.out.1 HI.out.2.1 HI.out.2.2.1 HI.out.2.2.2 rfl (by decide) u6 P.length (rowP P) rfl (how9.next ((Since.refl _).alloc _) (Nat.succ_pos _)).1 ⟨_, 0, none⟩ 1 1 (#[.string ⟨u.toArray⟩, .string ⟨p.toArray⟩, .int .i64 nn, .bool v0, .string ⟨m0.toArray⟩, .bool v1, .string ⟨m1.toArray⟩, .bool v2, .string ⟨m2.toArray⟩, .bool v3, .string ⟨m3.toArray⟩, .int .i64 ((c : Int) - 1), cv] : Array Value).toList rfl rfl (cells13 _ _ _ _ (by simp)) (one_list hone.out) (by unfold maxLen; omega) (by omega) (by simp; omega) ?_; intro v9 w9 hown9 hg9 _; have hX := readtailC (x := ((u, p, nn, (v0, m0), (v1, m1), (v2, m2), (v3, m3)), (c : Int) - 1, Lc.map fun x : Nat => (x : Int))) how9 hR9 hS9 hsv9 hg9 hown9; clear hown9 hg9))
            go_roundw
            case rel => exact ⟨k + 1, P ++ [(((u, p, nn, (v0, m0), (v1, m1), (v2, m2), (v3, m3)), (c : Int) - 1, Lc.map fun x : Nat => (x : Int)), cv)], j9, _, by omega, by simp [HP.out], by go_num, hj9, by omega, fX2, hX.2.1, hX.1, hX.2.2, hlig2.out, by rw [List.map_append]; exact HR2.out⟩
            case measure => simp [intOf]; omega
    · have hqe : q = (P.map Prod.fst, j, bb) := by
        rw [hres.out]
        by_cases hlt : k < n
        · obtain rfl : bb = true := by
            cases bb
            · exact absurd ⟨hlt, rfl⟩ hgo
            · rfl
          rw [rstepsS_bad]; simp
        · rw [show n - k = 0 by omega, rstepsS]; simp
      have hRS := HRS.out
      have hFA := HFAR.out
      rw [hqe] at hRS hFA
      simp only at hRS hFA
      have hrow := how.row
      have hlg := hRj.lt
      obtain ⟨L, hL⟩ : ∃ L, Hid (L = P.map Prod.fst) := ⟨_, rfl⟩
      have hlig9 := hlig.out
      rw [← hL.out] at hRS hFA hrow hlig9
      have hLl : L.length ≤ 9001 := by have := hFA.2; omega
      have hsb : (stepsB L).length ≤ 500000 := by
        have h1 := hFA.1
        have h2 := num_len L.length
        rw [stepsB, List.length_append]
        omega
      have HBY := Lib.hid (fun (W : World) (h : Since wr W) => rbytesS_any u6 L W (hrow.next h) (by omega) (fun x hx => by have := (hlig9 x hx).2; omega) (fun x hx => fits_light (hlig9 x hx).1) (fun _ => hsb))
      unfold CertBP at HBY
      have HROW := Lib.hid hrow
      have HSJ := Lib.hid hSj
      clear hres hqe how hFA hlig hlig9 hL hrow hsb hLl HFAR hSj hkj
      obtain ⟨mb, hmb⟩ : ∃ mb, Hid (mb = maysB L) := ⟨_, rfl⟩
      obtain ⟨S, hS9⟩ : ∃ S, Hid (S = if maysB L then stepsB L else []) := ⟨_, rfl⟩
      rw [← hS9.out, ← hmb.out] at HBY
      rw [← hmb.out] at hRS
      have hcs : (bb = true ∧ k < n) ∨ (bb = true ∧ ¬ k < n) ∨ (bb = false ∧ ¬ k < n) := by
        by_cases h1 : k < n <;> cases bb <;> simp only [h1, not_true, not_false_iff, and_true, and_false, or_false, reduceCtorEq, or_true, and_self, or_self]
        exact hgo ⟨h1, rfl⟩
      have HPN : Hid (readS s = none → ∀ W, Since wr W → ReadPost s w (.returned (.tuple #[.slice none 0 0, .int .i64 15])) W) := by
        intro hn W hW
        refine ⟨.slice none 0 0, by rw [hn]; rfl, by rw [hn]; exact StpRow.zero _, HSJ.out.trans hW⟩
      have HPY : Hid (readS s = some L → ∀ W, Since wr W → ReadPost s w (.returned (.tuple #[u6, .int .i64 0])) W) := by
        intro hn W hW
        exact ⟨u6, by rw [hn]; rfl, by rw [hn]; exact HROW.out.next hW, HSJ.out.trans hW⟩
      rcases hcs with ⟨rfl, hlt⟩ | ⟨rfl, hlt⟩ | ⟨rfl, hlt⟩
      · have hn := HPN.out (by rw [hRS]; simp)
        have c2 := hRj.c2t
        clear hRS hgo HPN HPY
        have hlti : (k : Int) < (n : Int) := by omega
        go_wp2_with fail
        refine (HBY.out _ (Since.refl _)).mono ?_
        rintro e w9 ⟨rfl, hb⟩
        have c29 := (hRj.next hb).c2t
        have hn9 := hn _ hb
        clear hn hb
        go_wp2_with fail
        all_goals
          go_ret2
          exact hn9
      · have hn := HPN.out (by rw [hRS]; simp)
        have c2 := hRj.c2t
        clear hRS hgo HPN HPY
        have hlti : ¬ (k : Int) < (n : Int) := by omega
        go_wp2_with fail
        refine (HBY.out _ (Since.refl _)).mono ?_
        rintro e w9 ⟨rfl, hb⟩
        have c29 := (hRj.next hb).c2t
        have hn9 := hn _ hb
        clear hn hb
        go_wp2_with fail
        all_goals
          go_ret2
          exact hn9
      · have hlti : ¬ (k : Int) < (n : Int) := by omega
        have c2 := hRj.c2f
        clear hgo
        cases mb
        case false =>
          have hn := HPN.out (by rw [hRS]; simp)
          clear hRS HPN HPY
          simp only [Bool.false_eq_true, if_false] at HBY
          go_wp2_with fail
          refine (HBY.out _ (Since.refl _)).mono ?_
          rintro e w9 ⟨rfl, hb⟩
          have c29 := (hRj.next hb).c2f
          have hn9 := hn _ hb
          clear hn hb
          go_wp2_with fail
          go_ret2
          exact hn9
        case true =>
          rw [← hmb.out, if_pos rfl] at hS9
          rw [← hS9.out] at hRS
          simp only [if_true] at HBY
          by_cases hse : S = s
          · have hn := HPY.out (by rw [hRS]; simp [hse])
            have hq2 : (S == s) = true := by simp [hse]
            clear hRS HPN HPY hse
            go_wp2_with fail
            refine (HBY.out _ (Since.refl _)).mono ?_
            rintro e w9 ⟨rfl, hb⟩
            have c29 := (hRj.next hb).c2f
            have hn9 := hn _ hb
            clear hn hb
            go_wp2_with fail
            go_ret2
            exact hn9
          · have hn := HPN.out (by rw [hRS]; simp [hse])
            have hq2 : (S == s) = false := by simp [hse]
            clear hRS HPN HPY hse
            go_wp2_with fail
            refine (HBY.out _ (Since.refl _)).mono ?_
            rintro e w9 ⟨rfl, hb⟩
            have c29 := (hRj.next hb).c2f
            have hn9 := hn _ hb
            clear hn hb
            go_wp2_with fail
            go_ret2
            exact hn9
end Go.Proofs.YtiadjmfdahendaaDoor

namespace Go.Proofs.YtiadjmfdahendaaDoor
open Go.RowKit
attribute [local go_sem ↓] run_atomEq
attribute [local go_sem] eqA_self

theorem rreadatom_yes (s : List UInt8) (b_s b_p : List UInt8) (b_n : Int) (b_v0 b_v1 b_v2 b_v3 : Bool) (b_l0 b_l1 b_l2 b_l3 : List UInt8) (k : Nat) (w : World) (hs : s.length ≤ 1000000) (h : atomS s 0 false = (((b_s, b_p, b_n, (b_v0, b_l0), (b_v1, b_l1), (b_v2, b_l2), (b_v3, b_l3)) : Atm), k, false)) :
    Calls Tryd.prog 23 #[.string ⟨s.toArray⟩] w fun e w' => e = .returned (.tuple #[.agg #[.string ⟨b_s.toArray⟩, .string ⟨b_p.toArray⟩, .int .i64 b_n, .bool b_v0, .string ⟨b_l0.toArray⟩, .bool b_v1, .string ⟨b_l1.toArray⟩, .bool b_v2, .string ⟨b_l2.toArray⟩, .bool b_v3, .string ⟨b_l3.toArray⟩], .int .i64 (k : Int), .int .i64 0]) ∧ Since w w' := by
  have h1 := rreadatom_any s w hs
  unfold ReadAtomPost at h1
  rw [h] at h1
  exact h1
theorem rreadatom_no (s : List UInt8) (w : World) (hs : s.length ≤ 1000000) (h : (atomS s 0 false).2.2 = true) :
    Calls Tryd.prog 23 #[.string ⟨s.toArray⟩] w fun e w' => e = .returned (.tuple #[.agg #[.string ⟨#[]⟩, .string ⟨#[]⟩, .int .i64 0, .bool false, .string ⟨#[]⟩, .bool false, .string ⟨#[]⟩, .bool false, .string ⟨#[]⟩, .bool false, .string ⟨#[]⟩], .int .i64 0, .int .i64 15]) ∧ Since w w' := by
  have h1 := rreadatom_any s w hs
  unfold ReadAtomPost at h1
  rw [h, atomS_zero h] at h1
  exact h1
theorem rbytes_no (v : Value) (L : List Stp) (w : World) (hv : StpRow w v L) (hL : LightW L) (hF : FitsS L) (hm : maysB L = false) :
    Calls Tryd.prog 24 #[v] w fun e w' => e = .returned (.tuple #[.string ⟨#[]⟩, .int .i64 2]) ∧ Since w w' := by
  have h := rbytesS_any v L w hv (by have := hL.1; omega) (fun x hx => by have := hL.2.2 x hx; omega) hF (fun h => by rw [hm] at h; cases h)
  unfold CertBP at h
  rw [hm] at h
  exact h
theorem rbytes_yes (v : Value) (L : List Stp) (w : World) (hv : StpRow w v L) (hL : LightW L) (hF : FitsS L) (hm : maysB L = true) :
    Calls Tryd.prog 24 #[v] w fun e w' => e = .returned (.tuple #[.string ⟨(stepsB L).toArray⟩, .int .i64 0]) ∧ Since w w' := by
  have h := rbytesS_any v L w hv (by have := hL.1; omega) (fun x hx => by have := hL.2.2 x hx; omega) hF (fun _ => by have := hL.2.1; omega)
  unfold CertBP at h
  rw [hm] at h
  exact h
theorem rread_yes (s : List UInt8) (K : List Stp) (w : World) (hs : s.length ≤ 9000) (h : readS s = some K) :
    Calls Tryd.prog 25 #[.string ⟨s.toArray⟩] w fun e w' => ∃ v, e = .returned (.tuple #[v, .int .i64 0]) ∧ StpRow w' v K ∧ Since w w' := by
  have h1 := rread_any s w hs
  unfold ReadPost at h1
  rw [h] at h1
  exact h1
theorem rread_no (s : List UInt8) (w : World) (hs : s.length ≤ 9000) (h : readS s = none) :
    Calls Tryd.prog 25 #[.string ⟨s.toArray⟩] w fun e w' => ∃ v, e = .returned (.tuple #[v, .int .i64 15]) ∧ StpRow w' v [] ∧ Since w w' := by
  have h1 := rread_any s w hs
  unfold ReadPost at h1
  rw [h] at h1
  exact h1

set_option maxHeartbeats 4000000 in
set_option maxRecDepth 100000 in
theorem ccalls_any (n : Nat) (hn : n < 4294967296) (a_s a_p : List UInt8) (a_n : Int) (a_v0 a_v1 a_v2 a_v3 : Bool) (a_l0 a_l1 a_l2 a_l3 : List UInt8) (v : Value) (L : List Stp) (s : List UInt8) (w : World) (hv : StpRow w v L) (hE : Env w) (fa : FitsA ((a_s, a_p, a_n, (a_v0, a_l0), (a_v1, a_l1), (a_v2, a_l2), (a_v3, a_l3)) : Atm)) (hF : FitsS L) :
    Calls Tryd.prog 6 #[.int .u32 (n : Int), .agg #[.string ⟨a_s.toArray⟩, .string ⟨a_p.toArray⟩, .int .i64 a_n, .bool a_v0, .string ⟨a_l0.toArray⟩, .bool a_v1, .string ⟨a_l1.toArray⟩, .bool a_v2, .string ⟨a_l2.toArray⟩, .bool a_v3, .string ⟨a_l3.toArray⟩], v, .string ⟨s.toArray⟩] w fun e w' => e = .returned (.bool true) ∧ Since w w' := by
  obtain ⟨a1, c1, rfl⟩ := hv.form
  have hS : Since w (w.alloc (.cells #[.string ⟨a_s.toArray⟩, .string ⟨a_p.toArray⟩, .int .i64 a_n, .bool a_v0, .string ⟨a_l0.toArray⟩, .bool a_v1, .string ⟨a_l1.toArray⟩, .bool a_v2, .string ⟨a_l2.toArray⟩, .bool a_v3, .string ⟨a_l3.toArray⟩] 27)) := (Since.refl _).alloc _
  have a_B : Box (w.alloc (.cells #[.string ⟨a_s.toArray⟩, .string ⟨a_p.toArray⟩, .int .i64 a_n, .bool a_v0, .string ⟨a_l0.toArray⟩, .bool a_v1, .string ⟨a_l1.toArray⟩, .bool a_v2, .string ⟨a_l2.toArray⟩, .bool a_v3, .string ⟨a_l3.toArray⟩] 27)) w.heap.size ((a_s, a_p, a_n, (a_v0, a_l0), (a_v1, a_l1), (a_v2, a_l2), (a_v3, a_l3)) : Atm) := box_new w ((a_s, a_p, a_n, (a_v0, a_l0), (a_v1, a_l1), (a_v2, a_l2), (a_v3, a_l3)) : Atm) _
  have HV := Lib.hid hv
  have HE := Lib.hid hE
  have HLS := Lib.hid (fun W hv => lightS_any (.slice a1 L.length c1) L W hv)
  have HLA := Lib.hid (fun W => light_any a_s a_p a_n a_v0 a_v1 a_v2 a_v3 a_l0 a_l1 a_l2 a_l3 W)
  clear hv hE
  obtain ⟨a_c0, a_c1, a_c2, a_c3, a_c4, a_c5, a_c6, a_c7, a_c8, a_c9, a_c10⟩ := a_B.all
  cases hla : lightB ((a_s, a_p, a_n, (a_v0, a_l0), (a_v1, a_l1), (a_v2, a_l2), (a_v3, a_l3)) : Atm)
  · rw [hla] at HLA
    go_enter Tryd.func6, Tryd.ntmps6
    go_wp2_with fail
    refine (lives23_any _).mono ?_
    rintro e w1 ⟨rfl, hb⟩
    replace hS := hS.trans hb
    replace a_B := a_B.next hb; replace a_c0 := hb.cell a_c0; replace a_c1 := hb.cell a_c1; replace a_c2 := hb.cell a_c2; replace a_c3 := hb.cell a_c3; replace a_c4 := hb.cell a_c4; replace a_c5 := hb.cell a_c5; replace a_c6 := hb.cell a_c6; replace a_c7 := hb.cell a_c7; replace a_c8 := hb.cell a_c8; replace a_c9 := hb.cell a_c9; replace a_c10 := hb.cell a_c10
    clear hb
    go_wp2_with fail
    refine (HLA.out _).mono ?_
    rintro e w2 ⟨rfl, hb⟩
    replace hS := hS.trans hb
    clear hb
    go_wp2_with fail
    go_ret
    exact ⟨rfl, hS⟩
  rw [hla] at HLA
  cases hls : lightSB L
  · rw [hls] at HLS
    go_enter Tryd.func6, Tryd.ntmps6
    go_wp2_with fail
    refine (lives23_any _).mono ?_
    rintro e w1 ⟨rfl, hb⟩
    replace hS := hS.trans hb
    replace a_B := a_B.next hb; replace a_c0 := hb.cell a_c0; replace a_c1 := hb.cell a_c1; replace a_c2 := hb.cell a_c2; replace a_c3 := hb.cell a_c3; replace a_c4 := hb.cell a_c4; replace a_c5 := hb.cell a_c5; replace a_c6 := hb.cell a_c6; replace a_c7 := hb.cell a_c7; replace a_c8 := hb.cell a_c8; replace a_c9 := hb.cell a_c9; replace a_c10 := hb.cell a_c10
    clear hb
    go_wp2_with fail
    refine (HLA.out _).mono ?_
    rintro e w2 ⟨rfl, hb⟩
    replace hS := hS.trans hb
    clear hb
    go_wp2_with fail
    refine (HLS.out _ (HV.out.next hS)).mono ?_
    rintro e w3 ⟨rfl, hb⟩
    replace hS := hS.trans hb
    clear hb
    go_wp2_with fail
    go_ret
    exact ⟨rfl, hS⟩
  rw [hls] at HLS
  cases hr : decide ((2000 : Int) < (s.length : Int))
  case true =>
    go_enter Tryd.func6, Tryd.ntmps6
    go_wp2_with fail
    refine (lives23_any _).mono ?_
    rintro e w1 ⟨rfl, hb⟩
    replace hS := hS.trans hb
    replace a_B := a_B.next hb; replace a_c0 := hb.cell a_c0; replace a_c1 := hb.cell a_c1; replace a_c2 := hb.cell a_c2; replace a_c3 := hb.cell a_c3; replace a_c4 := hb.cell a_c4; replace a_c5 := hb.cell a_c5; replace a_c6 := hb.cell a_c6; replace a_c7 := hb.cell a_c7; replace a_c8 := hb.cell a_c8; replace a_c9 := hb.cell a_c9; replace a_c10 := hb.cell a_c10
    clear hb
    go_wp2_with fail
    refine (HLA.out _).mono ?_
    rintro e w2 ⟨rfl, hb⟩
    replace hS := hS.trans hb
    clear hb
    go_wp2_with fail
    refine (HLS.out _ (HV.out.next hS)).mono ?_
    rintro e w3 ⟨rfl, hb⟩
    replace hS := hS.trans hb
    clear hb
    go_wp2_with fail
    go_ret
    exact ⟨rfl, hS⟩
  case false =>
    have hs2 : s.length ≤ 2000 := by rw [decide_eq_false_iff_not] at hr; omega
    have HW := Lib.hid (lightS_of hls).w
    have HF := Lib.hid hF
    have HFA := Lib.hid fa
    have HLB := Lib.hid hla
    have HN := Lib.hid (fun W => number_any n W hn)
    have HRN := Lib.hid (fun W => rnumber_any n W hn)
    obtain ⟨N, hN⟩ : ∃ N, Hid (N = numL n) := ⟨_, rfl⟩
    rw [← hN.out] at HN HRN
    obtain ⟨q1, q2, q3, hq⟩ : ∃ q1 q2 q3 : Int, Hid (rdV (readL s) = .tuple #[.int .u32 q1, .int .i64 q2, .int .i64 q3]) := by
      cases readL s
      · exact ⟨_, _, _, rfl⟩
      · exact ⟨_, _, _, rfl⟩
    have HRD := Lib.hid (fun W => readnum_any s W (by unfold maxLen; omega))
    have HRRD := Lib.hid (fun W => rreadnum_any s W (by omega))
    rw [hq.out] at HRD HRRD
    obtain ⟨X, E, hXE⟩ : ∃ (X : List UInt8) (E : Int), Hid ((checkA ((a_s, a_p, a_n, (a_v0, a_l0), (a_v1, a_l1), (a_v2, a_l2), (a_v3, a_l3)) : Atm) = 0 ∧ X = atomB ((a_s, a_p, a_n, (a_v0, a_l0), (a_v1, a_l1), (a_v2, a_l2), (a_v3, a_l3)) : Atm) ∧ E = 0) ∨ (checkA ((a_s, a_p, a_n, (a_v0, a_l0), (a_v1, a_l1), (a_v2, a_l2), (a_v3, a_l3)) : Atm) ≠ 0 ∧ X = [] ∧ E = 2)) := by
      by_cases h : checkA ((a_s, a_p, a_n, (a_v0, a_l0), (a_v1, a_l1), (a_v2, a_l2), (a_v3, a_l3)) : Atm) = 0
      · exact ⟨atomB ((a_s, a_p, a_n, (a_v0, a_l0), (a_v1, a_l1), (a_v2, a_l2), (a_v3, a_l3)) : Atm), 0, .inl ⟨h, rfl, rfl⟩⟩
      · exact ⟨[], 2, .inr ⟨h, rfl, rfl⟩⟩
    have HAT : Hid (∀ W, Env W → Calls Tryd.prog 13 #[.agg #[.string ⟨a_s.toArray⟩, .string ⟨a_p.toArray⟩, .int .i64 a_n, .bool a_v0, .string ⟨a_l0.toArray⟩, .bool a_v1, .string ⟨a_l1.toArray⟩, .bool a_v2, .string ⟨a_l2.toArray⟩, .bool a_v3, .string ⟨a_l3.toArray⟩]] W fun e w' => e = .returned (.tuple #[.string ⟨X.toArray⟩, .int .i64 E]) ∧ Since W w') := by
      intro W hEW
      rcases hXE.out with ⟨h, rfl, rfl⟩ | ⟨h, rfl, rfl⟩
      · exact catom_yes a_s a_p a_n a_v0 a_v1 a_v2 a_v3 a_l0 a_l1 a_l2 a_l3 W HFA.out hEW HLB.out h
      · exact catom_no a_s a_p a_n a_v0 a_v1 a_v2 a_v3 a_l0 a_l1 a_l2 a_l3 W HFA.out hEW HLB.out h
    have HRAT : Hid (∀ W, Calls Tryd.prog 22 #[.agg #[.string ⟨a_s.toArray⟩, .string ⟨a_p.toArray⟩, .int .i64 a_n, .bool a_v0, .string ⟨a_l0.toArray⟩, .bool a_v1, .string ⟨a_l1.toArray⟩, .bool a_v2, .string ⟨a_l2.toArray⟩, .bool a_v3, .string ⟨a_l3.toArray⟩]] W fun e w' => e = .returned (.tuple #[.string ⟨X.toArray⟩, .int .i64 E]) ∧ Since W w') := by
      intro W
      rcases hXE.out with ⟨h, rfl, rfl⟩ | ⟨h, rfl, rfl⟩
      · exact ratom23_yes a_s a_p a_n a_v0 a_v1 a_v2 a_v3 a_l0 a_l1 a_l2 a_l3 W HFA.out HLB.out h
      · exact ratom23_no a_s a_p a_n a_v0 a_v1 a_v2 a_v3 a_l0 a_l1 a_l2 a_l3 W HFA.out h
    obtain ⟨b_s, b_p, b_n, b_v0, b_l0, b_v1, b_l1, b_v2, b_l2, b_v3, b_l3, K, E3, hBK⟩ : ∃ (b_s b_p : List UInt8) (b_n : Int) (b_v0 : Bool) (b_l0 : List UInt8) (b_v1 : Bool) (b_l1 : List UInt8) (b_v2 : Bool) (b_l2 : List UInt8) (b_v3 : Bool) (b_l3 : List UInt8) (K : Nat) (E3 : Int), Hid ((E3 = 0 ∧ atomS s 0 false = (((b_s, b_p, b_n, (b_v0, b_l0), (b_v1, b_l1), (b_v2, b_l2), (b_v3, b_l3)) : Atm), K, false)) ∨ (E3 = 15 ∧ (atomS s 0 false).2.2 = true ∧ ((b_s, b_p, b_n, (b_v0, b_l0), (b_v1, b_l1), (b_v2, b_l2), (b_v3, b_l3)) : Atm) = zeroAtm ∧ K = 0)) := by
      generalize atomS s 0 false = q
      obtain ⟨⟨b_s, b_p, b_n, ⟨b_v0, b_l0⟩, ⟨b_v1, b_l1⟩, ⟨b_v2, b_l2⟩, ⟨b_v3, b_l3⟩⟩, k, z⟩ := q
      cases z
      · exact ⟨_, _, _, _, _, _, _, _, _, _, _, _, _, .inl ⟨rfl, rfl⟩⟩
      · exact ⟨_, _, _, _, _, _, _, _, _, _, _, _, _, .inr ⟨rfl, rfl, rfl, rfl⟩⟩
    have HRA : Hid (∀ W, Env W → Calls Tryd.prog 19 #[.string ⟨s.toArray⟩] W fun e w' => e = .returned (.tuple #[.agg #[.string ⟨b_s.toArray⟩, .string ⟨b_p.toArray⟩, .int .i64 b_n, .bool b_v0, .string ⟨b_l0.toArray⟩, .bool b_v1, .string ⟨b_l1.toArray⟩, .bool b_v2, .string ⟨b_l2.toArray⟩, .bool b_v3, .string ⟨b_l3.toArray⟩], .int .i64 (K : Int), .int .i64 E3]) ∧ Since W w') := by
      intro W hEW
      rcases hBK.out with ⟨rfl, h⟩ | ⟨rfl, h, hz, rfl⟩
      · exact readatom_yes s b_s b_p b_n b_v0 b_v1 b_v2 b_v3 b_l0 b_l1 b_l2 b_l3 K W (by omega) hEW h
      · have h1 := readatom_no s W (by omega) hEW h
        simp only [zeroAtm, Prod.mk.injEq] at hz
        obtain ⟨rfl, rfl, rfl, ⟨rfl, rfl⟩, ⟨rfl, rfl⟩, ⟨rfl, rfl⟩, rfl, rfl⟩ := hz
        exact h1
    have HRRA : Hid (∀ W, Calls Tryd.prog 23 #[.string ⟨s.toArray⟩] W fun e w' => e = .returned (.tuple #[.agg #[.string ⟨b_s.toArray⟩, .string ⟨b_p.toArray⟩, .int .i64 b_n, .bool b_v0, .string ⟨b_l0.toArray⟩, .bool b_v1, .string ⟨b_l1.toArray⟩, .bool b_v2, .string ⟨b_l2.toArray⟩, .bool b_v3, .string ⟨b_l3.toArray⟩], .int .i64 (K : Int), .int .i64 E3]) ∧ Since W w') := by
      intro W
      rcases hBK.out with ⟨rfl, h⟩ | ⟨rfl, h, hz, rfl⟩
      · exact rreadatom_yes s b_s b_p b_n b_v0 b_v1 b_v2 b_v3 b_l0 b_l1 b_l2 b_l3 K W (by omega) h
      · have h1 := rreadatom_no s W (by omega) h
        simp only [zeroAtm, Prod.mk.injEq] at hz
        obtain ⟨rfl, rfl, rfl, ⟨rfl, rfl⟩, ⟨rfl, rfl⟩, ⟨rfl, rfl⟩, rfl, rfl⟩ := hz
        exact h1
    obtain ⟨T, E2, hTE⟩ : ∃ (T : List UInt8) (E2 : Int), Hid ((maysB L = true ∧ T = stepsB L ∧ E2 = 0) ∨ (maysB L = false ∧ T = [] ∧ E2 = 2)) := by
      cases h : maysB L
      · exact ⟨[], 2, .inr ⟨rfl, rfl, rfl⟩⟩
      · exact ⟨stepsB L, 0, .inl ⟨rfl, rfl, rfl⟩⟩
    have HBT : Hid (∀ W, StpRow W (.slice a1 L.length c1) L → Env W → Calls Tryd.prog 11 #[.slice a1 L.length c1] W fun e w' => e = .returned (.tuple #[.string ⟨T.toArray⟩, .int .i64 E2]) ∧ Since W w') := by
      intro W hv hEW
      rcases hTE.out with ⟨h, rfl, rfl⟩ | ⟨h, rfl, rfl⟩
      · exact bytes_yes _ L W hv hEW HW.out HF.out h
      · exact bytes_no _ L W hv hEW HW.out HF.out h
    have HRBT : Hid (∀ W, StpRow W (.slice a1 L.length c1) L → Calls Tryd.prog 24 #[.slice a1 L.length c1] W fun e w' => e = .returned (.tuple #[.string ⟨T.toArray⟩, .int .i64 E2]) ∧ Since W w') := by
      intro W hv
      rcases hTE.out with ⟨h, rfl, rfl⟩ | ⟨h, rfl, rfl⟩
      · exact rbytes_yes _ L W hv HW.out HF.out h
      · exact rbytes_no _ L W hv HW.out HF.out h
    obtain ⟨KL, E4, hKE⟩ : ∃ (KL : List Stp) (E4 : Int), Hid ((readS s = some KL ∧ E4 = 0) ∨ (readS s = none ∧ KL = [] ∧ E4 = 15)) := by
      cases readS s
      · exact ⟨[], 15, .inr ⟨rfl, rfl, rfl⟩⟩
      · exact ⟨_, 0, .inl ⟨rfl, rfl⟩⟩
    have HRS : Hid (∀ W, Env W → Calls Tryd.prog 15 #[.string ⟨s.toArray⟩] W fun e w' => ∃ v, e = .returned (.tuple #[v, .int .i64 E4]) ∧ StpRow w' v KL ∧ Since W w') := by
      intro W hEW
      rcases hKE.out with ⟨h, rfl⟩ | ⟨h, rfl, rfl⟩
      · exact read_yes s KL W (by omega) hEW h
      · exact read_no s W (by omega) hEW h
    have HRRS : Hid (∀ W, Calls Tryd.prog 25 #[.string ⟨s.toArray⟩] W fun e w' => ∃ v, e = .returned (.tuple #[v, .int .i64 E4]) ∧ StpRow w' v KL ∧ Since W w') := by
      intro W
      rcases hKE.out with ⟨h, rfl⟩ | ⟨h, rfl, rfl⟩
      · exact rread_yes s KL W (by omega) h
      · exact rread_no s W (by omega) h
    have HKW : Hid (KL.length ≤ 1000000 ∧ ∀ x ∈ KL, x.2.2.length ≤ 1000000) := by
      rcases hKE.out with ⟨h, rfl⟩ | ⟨h, rfl, rfl⟩
      · have hKL := h
        rw [← readS_P] at hKL
        obtain ⟨hmK, heK⟩ := readP_iff.1 hKL
        have hw := mays_w hmK (by rw [← heK]; exact hs2)
        exact ⟨by have := hw.1; omega, fun x hx => by have := hw.2.2 x hx; omega⟩
      · exact ⟨Nat.zero_le _, fun x hx => by cases hx⟩
    have HSM : Hid (∀ u v W, StpRow W u KL → StpRow W v KL → Calls Tryd.prog 14 #[u, v] W fun e w' => e = .returned (.bool true) ∧ Since W w') := by
      intro u v W h1 h2
      have h := sameS_any u v KL KL W h1 h2 HKW.out.1 HKW.out.1 HKW.out.2 HKW.out.2
      rw [same_list] at h
      exact h
    clear hr hls hF hla fa hN hq hXE hBK hTE hKE HKW
    go_enter Tryd.func6, Tryd.ntmps6
    go_wp2_with fail
    refine (lives23_any _).mono ?_
    rintro e w1 ⟨rfl, hb⟩
    replace hS := hS.trans hb
    replace a_B := a_B.next hb; replace a_c0 := hb.cell a_c0; replace a_c1 := hb.cell a_c1; replace a_c2 := hb.cell a_c2; replace a_c3 := hb.cell a_c3; replace a_c4 := hb.cell a_c4; replace a_c5 := hb.cell a_c5; replace a_c6 := hb.cell a_c6; replace a_c7 := hb.cell a_c7; replace a_c8 := hb.cell a_c8; replace a_c9 := hb.cell a_c9; replace a_c10 := hb.cell a_c10
    clear hb
    go_wp2_with fail
    refine (HLA.out _).mono ?_
    rintro e w2 ⟨rfl, hb⟩
    replace hS := hS.trans hb
    replace a_B := a_B.next hb; replace a_c0 := hb.cell a_c0; replace a_c1 := hb.cell a_c1; replace a_c2 := hb.cell a_c2; replace a_c3 := hb.cell a_c3; replace a_c4 := hb.cell a_c4; replace a_c5 := hb.cell a_c5; replace a_c6 := hb.cell a_c6; replace a_c7 := hb.cell a_c7; replace a_c8 := hb.cell a_c8; replace a_c9 := hb.cell a_c9; replace a_c10 := hb.cell a_c10
    clear hb HLA
    go_wp2_with fail
    refine (HLS.out _ (HV.out.next hS)).mono ?_
    rintro e w3 ⟨rfl, hb⟩
    replace hS := hS.trans hb
    replace a_B := a_B.next hb; replace a_c0 := hb.cell a_c0; replace a_c1 := hb.cell a_c1; replace a_c2 := hb.cell a_c2; replace a_c3 := hb.cell a_c3; replace a_c4 := hb.cell a_c4; replace a_c5 := hb.cell a_c5; replace a_c6 := hb.cell a_c6; replace a_c7 := hb.cell a_c7; replace a_c8 := hb.cell a_c8; replace a_c9 := hb.cell a_c9; replace a_c10 := hb.cell a_c10
    clear hb HLS
    go_wp2_with fail
    refine (HRD.out _).mono ?_
    rintro e w4 ⟨rfl, rfl⟩
    go_wp2_with fail
    refine (HRRD.out _).mono ?_
    rintro e w5 ⟨rfl, hb⟩
    replace hS := hS.trans hb
    replace a_B := a_B.next hb; replace a_c0 := hb.cell a_c0; replace a_c1 := hb.cell a_c1; replace a_c2 := hb.cell a_c2; replace a_c3 := hb.cell a_c3; replace a_c4 := hb.cell a_c4; replace a_c5 := hb.cell a_c5; replace a_c6 := hb.cell a_c6; replace a_c7 := hb.cell a_c7; replace a_c8 := hb.cell a_c8; replace a_c9 := hb.cell a_c9; replace a_c10 := hb.cell a_c10
    clear hb
    go_wp2_with fail
    refine (HAT.out _ (HE.out.next hS)).mono ?_
    rintro e w6 ⟨rfl, hb⟩
    replace hS := hS.trans hb
    replace a_B := a_B.next hb; replace a_c0 := hb.cell a_c0; replace a_c1 := hb.cell a_c1; replace a_c2 := hb.cell a_c2; replace a_c3 := hb.cell a_c3; replace a_c4 := hb.cell a_c4; replace a_c5 := hb.cell a_c5; replace a_c6 := hb.cell a_c6; replace a_c7 := hb.cell a_c7; replace a_c8 := hb.cell a_c8; replace a_c9 := hb.cell a_c9; replace a_c10 := hb.cell a_c10
    clear hb
    go_wp2_with fail
    refine (HRAT.out _).mono ?_
    rintro e w7 ⟨rfl, hb⟩
    replace hS := hS.trans hb
    clear hb
    go_wp2_with fail
    refine (HRA.out _ (HE.out.next hS)).mono ?_
    rintro e w8 ⟨rfl, hb⟩
    replace hS := hS.trans hb
    clear hb HRA a_B a_c0 a_c1 a_c2 a_c3 a_c4 a_c5 a_c6 a_c7 a_c8 a_c9 a_c10
    go_wp2_with fail
    refine (HRRA.out _).mono ?_
    rintro e w9 ⟨rfl, hb⟩
    have b_B : Box w9 w8.heap.size ((b_s, b_p, b_n, (b_v0, b_l0), (b_v1, b_l1), (b_v2, b_l2), (b_v3, b_l3)) : Atm) := (box_new w8 ((b_s, b_p, b_n, (b_v0, b_l0), (b_v1, b_l1), (b_v2, b_l2), (b_v3, b_l3)) : Atm) 27).next hb
    have hS9 : Since w w9 := (hS.alloc _).trans hb
    clear hb hS HRRA
    go_wp2_with fail
    have d_B : Box (w9.alloc (.cells #[.string ⟨b_s.toArray⟩, .string ⟨b_p.toArray⟩, .int .i64 b_n, .bool b_v0, .string ⟨b_l0.toArray⟩, .bool b_v1, .string ⟨b_l1.toArray⟩, .bool b_v2, .string ⟨b_l2.toArray⟩, .bool b_v3, .string ⟨b_l3.toArray⟩] 27)) w9.heap.size ((b_s, b_p, b_n, (b_v0, b_l0), (b_v1, b_l1), (b_v2, b_l2), (b_v3, b_l3)) : Atm) := box_new w9 _ _
    replace b_B : Box (w9.alloc (.cells #[.string ⟨b_s.toArray⟩, .string ⟨b_p.toArray⟩, .int .i64 b_n, .bool b_v0, .string ⟨b_l0.toArray⟩, .bool b_v1, .string ⟨b_l1.toArray⟩, .bool b_v2, .string ⟨b_l2.toArray⟩, .bool b_v3, .string ⟨b_l3.toArray⟩] 27)) w8.heap.size ((b_s, b_p, b_n, (b_v0, b_l0), (b_v1, b_l1), (b_v2, b_l2), (b_v3, b_l3)) : Atm) := b_B.next ((Since.refl _).alloc _)
    have hS : Since w (w9.alloc (.cells #[.string ⟨b_s.toArray⟩, .string ⟨b_p.toArray⟩, .int .i64 b_n, .bool b_v0, .string ⟨b_l0.toArray⟩, .bool b_v1, .string ⟨b_l1.toArray⟩, .bool b_v2, .string ⟨b_l2.toArray⟩, .bool b_v3, .string ⟨b_l3.toArray⟩] 27)) := hS9.alloc _
    refine (HBT.out _ (HV.out.next hS) (HE.out.next hS)).mono ?_
    rintro e w10 ⟨rfl, hb⟩
    replace hS := hS.trans hb
    replace b_B := b_B.next hb
    replace d_B := d_B.next hb
    clear hb hS9 HBT
    go_wp2_with fail
    refine (HRBT.out _ (HV.out.next hS)).mono ?_
    rintro e w11 ⟨rfl, hb⟩
    replace hS := hS.trans hb
    replace b_B := b_B.next hb
    replace d_B := d_B.next hb
    clear hb HRBT
    go_wp2_with fail
    refine (HRS.out _ (HE.out.next hS)).mono ?_
    rintro e w12 ⟨rv, rfl, hrv, hb⟩
    replace hS := hS.trans hb
    replace b_B := b_B.next hb
    replace d_B := d_B.next hb
    clear hb HRS
    go_wp2_with fail
    refine (HRRS.out _).mono ?_
    rintro e w13 ⟨sv, rfl, hsv, hb⟩
    replace hS := hS.trans hb
    replace b_B := b_B.next hb
    replace d_B := d_B.next hb
    replace hrv := hrv.next hb
    clear hb HRRS
    go_wp2_with fail
    refine (HN.out _).mono ?_
    rintro e w14 ⟨rfl, hb⟩
    replace hS := hS.trans hb
    replace b_B := b_B.next hb
    replace d_B := d_B.next hb
    replace hrv := hrv.next hb
    replace hsv := hsv.next hb
    clear hb HN
    go_wp2_with fail
    refine (HRN.out _).mono ?_
    rintro e w15 ⟨rfl, hb⟩
    replace hS := hS.trans hb
    replace b_B := b_B.next hb
    replace d_B := d_B.next hb
    replace hrv := hrv.next hb
    replace hsv := hsv.next hb
    clear hb HRN
    obtain ⟨b_c0, b_c1, b_c2, b_c3, b_c4, b_c5, b_c6, b_c7, b_c8, b_c9, b_c10⟩ := b_B.all
    obtain ⟨d_c0, d_c1, d_c2, d_c3, d_c4, d_c5, d_c6, d_c7, d_c8, d_c9, d_c10⟩ := d_B.all
    have HRV := Lib.hid hrv
    have HSV := Lib.hid hsv
    clear b_B d_B hrv hsv
    go_wp2_with fail
    refine (HSM.out _ _ _ HRV.out HSV.out).mono ?_
    rintro e w16 ⟨rfl, hb⟩
    go_wp2_with fail
    go_ret
    exact ⟨rfl, hS.trans hb⟩
end Go.Proofs.YtiadjmfdahendaaDoor
