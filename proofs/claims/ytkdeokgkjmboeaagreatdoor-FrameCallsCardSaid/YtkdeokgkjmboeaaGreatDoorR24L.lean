/- The reference's ReadResponse: it answers as package frame's. FrameCalls: what both read, the same; single operations. FrameCalls returns true at every request, responses and bytes, in every world in which the library's table strings.asciiSpace stands. -/
import Derived.Test.YtkdeokgkjmboeaaGreatDoorR24C
import Derived.Test.YtkdeokgkjmboeaaGreatDoorFrH
import Derived.Test.YtkdeokgkjmboeaaGreatDoorFrL
import Derived.Test.YtkdeokgkjmboeaaGreatDoorAuto
namespace Go.Proofs.YtkdeokgkjmboeaaGreatDoor
open Go.RowKit

theorem ratom_len {s : List UInt8} {i : Nat} (hi : i ≤ s.length) (h : (ratomS s i false).2.2 = false) : (ratomS s i false).2.1 = i + (atomB (ratomS s i false).1).length := by
  have h1 := (atomF_some (cur_atom hi h)).2
  have h2 := ratomS_le (s := s) (bad := false) hi
  have h3 := congrArg List.length h1
  rw [List.length_append, List.length_drop, List.length_drop] at h3
  omega
theorem ratoms_len {s : List UInt8} : ∀ (m i : Nat), i ≤ s.length → (ratomsS s m i false).2.2 = false → (ratomsS s m i false).2.1 = i + ((ratomsS s m i false).1.flatMap atomB).length
  | 0, i, _, _ => by simp [ratomsS]
  | m + 1, i, hi, h => by
    have hl := ratomS_le (s := s) (bad := false) hi
    have hf := ratom_len hi
    rw [ratomsS, if_neg (by simp)] at h ⊢
    simp only at h ⊢
    generalize ratomS s i false = a at *
    obtain ⟨a, j, b⟩ := a
    simp only at h hl hf ⊢
    cases b
    · have h2 := ratoms_len m j hl h
      have h3 := hf rfl
      rw [h2, List.flatMap_cons, List.length_append]
      omega
    · rw [ratomsS_bad] at h; cases h
theorem ratoms_light {s : List UInt8} : ∀ (m i : Nat) (b : Bool), ∀ a ∈ (ratomsS s m i b).1, lightB a = true
  | 0, i, b, a, h => by cases h
  | m + 1, i, true, a, h => by rw [ratomsS_bad] at h; cases h
  | m + 1, i, false, a, h => by
    rw [ratomsS, if_neg (by simp)] at h
    rcases List.mem_cons.1 h with rfl | h
    · exact ratom_lightR s i false
    · exact ratoms_light m _ _ a h
theorem flat_count : ∀ L : List Atm, L.length ≤ (L.flatMap atomB).length
  | [] => Nat.le_refl _
  | a :: r => by
    have h := flat_count r
    rw [List.flatMap_cons, List.length_append, List.length_cons]
    have := atomB_pos a
    omega
theorem text_len2 {s : List UInt8} {i : Nat} {b : Bool} (hi : i ≤ s.length) : (textS s i b).1.length ≤ s.length ∧ ((textS s i b).2.2 = false → (numS s i b).2.1 + (textS s i b).1.length ≤ s.length) := by
  have hl := (numS_le (s := s) (bad := b) hi).2
  unfold textS
  simp only
  split
  · refine ⟨Nat.zero_le _, fun h => by cases h⟩
  · split
    · refine ⟨Nat.zero_le _, fun h => by cases h⟩
    · rw [List.length_take, List.length_drop]
      exact ⟨by omega, fun _ => by show _ + _ ≤ _; omega⟩
theorem num_move {s : List UInt8} {i : Nat} {b : Bool} : i ≤ (numS s i b).2.1 := by
  unfold numS
  split
  · exact Nat.le_refl _
  · split
    · exact Nat.le_refl _
    · show i ≤ i + _; omega
theorem textS_false {s : List UInt8} {i : Nat} {b : Bool} (h : (textS s i b).2.2 = false) : b = false := by
  cases b
  · rfl
  · unfold textS numS at h
    simp at h
theorem rrest_len {s : List UInt8} {i : Nat} {b : Bool} (hi : i ≤ s.length) (h : (rrestS s i b).2.2.2 = false) : ((rrestS s i b).2.1.flatMap atomB).length ≤ s.length ∧ (rrestS s i b).2.2.1.length ≤ s.length ∧ ∀ a ∈ (rrestS s i b).2.1, lightB a = true := by
  unfold rrestS at h ⊢
  simp only at h ⊢
  have l1 := byteS_le (s := s) (i := i) (b := b) hi
  generalize byteS s i b = c at *
  obtain ⟨c, j, b1⟩ := c
  simp only at h l1 ⊢
  have l2 := (numS_le (s := s) (bad := b1) l1).2
  generalize numS s j b1 = n at *
  obtain ⟨n, j2, b2⟩ := n
  simp only at h l2 ⊢
  by_cases hc : 1 < c
  · rw [if_pos hc] at h ⊢
    simp only at h ⊢
    exact ⟨Nat.zero_le _, (text_len2 l2).1, fun a ha => by cases ha⟩
  · rw [if_neg hc] at h ⊢
    have l3 := ratoms_far n j2 b2 l2
    have hb := textS_false h
    have hlt := ratoms_light (s := s) n j2 b2
    have h2 : b2 = false := by
      cases b2
      · rfl
      · rw [ratomsS_bad] at hb; cases hb
    subst h2
    have hf := ratoms_len n j2 l2 hb
    exact ⟨by omega, (text_len2 l3).1, hlt⟩
theorem rparts_len {s : List UInt8} (h : (rpartsS s).2 = false) : (rsB (rpartsS s).1).length ≤ 2 * s.length + 20 ∧ (rpartsS s).1.2.2.1.length ≤ s.length ∧ ∀ a ∈ (rpartsS s).1.2.2.1, lightB a = true := by
  have l1 := byteS_le (s := s) (i := 0) (b := false) (Nat.zero_le _)
  unfold rpartsS at h ⊢
  simp only at h ⊢
  generalize byteS s 0 false = k at *
  obtain ⟨k, j, b⟩ := k
  simp only at h l1 ⊢
  by_cases h0 : k = 0
  · rw [if_pos h0] at h ⊢
    simp only at h ⊢
    obtain ⟨h1, h2, h3⟩ := rrest_len l1 h
    have h4 := flat_count (rrestS s j b).2.1
    refine ⟨?_, by omega, h3⟩
    have n1 := num_len (rrestS s j b).2.1.length
    have n2 := num_len (rrestS s j b).2.2.1.length
    unfold rsB
    rw [if_neg (by simp)]
    unfold textB
    simp only [List.length_cons, List.length_append]
    omega
  · rw [if_neg h0]
    refine ⟨?_, Nat.zero_le _, fun a ha => by cases ha⟩
    unfold rsB
    rw [if_pos (by simp; omega)]
    simp
/-- What stands before the cursor's error is asked for. -/
def RsCutR (s : List UInt8) (w : World) (B : Nat) (wx : World) : Prop :=
  ∃ (x : Rsp) (sv : Value) (j : Nat) (bb : Bool), rpartsS s = (x, bb) ∧ Cur wx (w.heap.size + 1) s j bb ∧ Cel wx B (rsCells x.1 x.2.1 sv x.2.2.2) 32 ∧ wx.ownsRow (B + 1) 26 11 sv x.2.2.1.length (rowA x.2.2.1) ∧ Cel wx w.heap.size (rsCells 0 false (.slice none 0 0) []) 32 ∧ Since w wx ∧ sv.oneCell' = true
/-- What the loop over the answers keeps. -/
def RsLoopR (s : List UInt8) (w : World) (B : Nat) (ch : Bool) (lim : Nat) (Q : List Atm × Nat × Bool) (m : Nat) (wr : World) : Prop :=
  ∃ (P : List Atm) (sv : Value) (j : Nat) (bb : Bool), Cur wr (w.heap.size + 1) s j bb ∧ Cel wr B (rsCells 0 ch sv []) 32 ∧ wr.ownsRow (B + 1) 26 11 sv P.length (rowA P) ∧ Cel wr w.heap.size (rsCells 0 false (.slice none 0 0) []) 32 ∧ Since w wr ∧ P.length ≤ s.length + 1 ∧ (bb = false → P.length ≤ j) ∧ j ≤ s.length ∧ Q = (P ++ (ratomsS s (lim - m) j bb).1, (ratomsS s (lim - m) j bb).2)
/-- What stands behind the append of an answer, told ahead of its store. -/
theorem looptailR {w w8 w9 : World} {B : Nat} {ch : Bool} {s : List UInt8} {j2 : Nat} {b2 : Bool} {cv v9 : Value} {P : List Atm} {x : Atm} (hB : Cel w8 B (rsCells 0 ch cv []) 32) (hR : Cur w8 (w.heap.size + 1) s j2 b2) (ho : w8.ownsRow (B + 1) 26 11 cv P.length (rowA P)) (hZ : Cel w8 w.heap.size (rsCells 0 false (.slice none 0 0) []) 32) (hS : Since w w8) (hgB : w.heap.size + 1 < B)
    {t : TypeId} (hg9 : (w8.alloc (.cells (atmC x) t)).grownBy w9 cv.ownBlock) (h9 : w9.ownsRow (B + 1) 26 11 v9 (P.length + 1) (rowA P ++ (atmC x).toList)) :
    ∃ g9 c9, v9 = .slice (some ⟨g9, 0, none⟩) (P.length + 1) c9 ∧ w9.cell? ⟨B, 2, none⟩ = some cv ∧ w9.frozen? ⟨B, 2, none⟩ = false ∧ B < w9.heap.size ∧
      Hid (∀ W, W = w9.setCell ⟨B, 2, none⟩ (.slice (some ⟨g9, 0, none⟩) (P.length + 1) c9) → Cur W (w.heap.size + 1) s j2 b2 ∧ Cel W B (rsCells 0 ch (.slice (some ⟨g9, 0, none⟩) (P.length + 1) c9) []) 32 ∧ W.ownsRow (B + 1) 26 11 (.slice (some ⟨g9, 0, none⟩) (P.length + 1) c9) (P ++ [x]).length (rowA (P ++ [x])) ∧ Cel W w.heap.size (rsCells 0 false (.slice none 0 0) []) 32 ∧ Since w W) := by
  have hcv : ∀ b, cv.ownBlock = some b → B + 1 ≤ b := fun b hb => (ho.lt b hb).1
  have hA : Since w8 (w8.alloc (.cells (atmC x) t)) := (Since.refl _).alloc _
  have hB9 := (hB.next hA).grown hg9 (fun e => by have := hcv _ e.symm; omega)
  have hR9 := (hR.next hA).grown hg9 (fun e => by have := hcv _ e.symm; omega)
  have hZ9 := (hZ.next hA).grown hg9 (fun e => by have := hcv _ e.symm; omega)
  have hS9 : Since w w9 := Below.grown (hS.trans hA) hg9 (hS.trans hA).size (fun q hq => by have := hcv q hq; omega)
  obtain ⟨g9, c9, rfl⟩ := Joins.ownsRow_form h9 (by omega)
  refine ⟨g9, c9, rfl, hB9.cell 2, hB9.free 2, hB9.lt, fun W hW => ?_⟩
  subst hW
  refine ⟨hR9.far (by show w.heap.size + 1 ≠ B; omega) _, hB9.set rfl, ?_, hZ9.far (by show w.heap.size ≠ B; omega) _, hS9.setCell (by show w.heap.size ≤ B; omega) _⟩
  have e : rowA (P ++ [x]) = rowA P ++ (atmC x).toList := by simp [rowA]
  rw [e, List.length_append]
  exact ownsRow_setCell_below h9 (Nat.lt_succ_self _) _
set_option maxHeartbeats 8000000 in
set_option maxRecDepth 100000 in
theorem rreadresp_any (s : List UInt8) (w : World) (hs : s.length ≤ 9000) :
    Calls Tryz.prog 14 #[.string ⟨s.toArray⟩] w (RsPost s w) := by
  have hs6 : s.length ≤ 1000000 := by omega
  have hA : Since w ((w.alloc (.cells #[.int .i64 0, .bool false, .slice none 0 0, .string ⟨#[]⟩] 32)).alloc (.cells #[.string ⟨s.toArray⟩, .int .i64 0, .int .i64 0] 58)) := ((Since.refl _).alloc _).alloc _
  have hZ : Cel ((w.alloc (.cells #[.int .i64 0, .bool false, .slice none 0 0, .string ⟨#[]⟩] 32)).alloc (.cells #[.string ⟨s.toArray⟩, .int .i64 0, .int .i64 0] 58)) w.heap.size (rsCells 0 false (.slice none 0 0) []) 32 := Cel.next (W := w.alloc (.cells #[.int .i64 0, .bool false, .slice none 0 0, .string ⟨#[]⟩] 32)) (heap_alloc_new w _) ((Since.refl _).alloc _)
  have hR : Cur ((w.alloc (.cells #[.int .i64 0, .bool false, .slice none 0 0, .string ⟨#[]⟩] 32)).alloc (.cells #[.string ⟨s.toArray⟩, .int .i64 0, .int .i64 0] 58)) (w.heap.size + 1) s 0 false := by
    have h := heap_alloc_new (w.alloc (.cells #[.int .i64 0, .bool false, .slice none 0 0, .string ⟨#[]⟩] 32)) (.cells #[.string ⟨s.toArray⟩, .int .i64 0, .int .i64 0] 58)
    rw [World.size_alloc] at h
    exact h
  have HO := Lib.hid (fun W hR => curbyte_any s 0 false (w.heap.size + 1) W hs6 (Nat.zero_le _) hR)
  have l1 := byteS_le (s := s) (i := 0) (b := false) (Nat.zero_le _)
  have k256 := byteS_256 s 0 false
  obtain ⟨k, hk⟩ : ∃ k, Hid (k = byteS s 0 false) := ⟨_, rfl⟩
  unfold CBytePost at HO
  rw [← hk.out] at HO l1 k256
  have hPF : Hid (rpartsS s = if k.1 = 0 then ((0, (rrestS s k.2.1 k.2.2).1, (rrestS s k.2.1 k.2.2).2.1, (rrestS s k.2.1 k.2.2).2.2.1), (rrestS s k.2.1 k.2.2).2.2.2) else (((k.1 : Int), false, [], []), k.2.2)) := by
    show _ = _
    rw [hk.out]; rfl
  obtain ⟨k, j1, b1⟩ := k
  simp only at HO l1 k256 hPF
  have ek : IntKind.i64.wrap (k : Int) = (k : Int) := IntWalk.i64_in _ (by omega)
  obtain ⟨i0, hi0, hz0, hz1, hz2⟩ := info_parts atmInfo3
  have HI := Lib.hid (And.intro hi0 (And.intro hz0 (And.intro hz1 hz2)))
  clear hk hi0 hz0 hz1 hz2
  go_enter Tryz.func14, Tryz.ntmps14
  go_wp2_with fail
  refine (HO.out _ hR).mono ?_
  rintro e w1 ⟨rfl, hR1, hg1⟩
  have hS1 : Since w w1 := since_far hA hg1 (Nat.le_succ _)
  have hZ1 := hZ.grown hg1 (by simp)
  have hA1 : Since w1 (w1.alloc (.cells #[.int .i64 (k : Int), .bool false, .slice none 0 0, .string ⟨#[]⟩] 32)) := (Since.refl _).alloc _
  have hB1 : Cel (w1.alloc (.cells #[.int .i64 (k : Int), .bool false, .slice none 0 0, .string ⟨#[]⟩] 32)) w1.heap.size (rsCells (k : Int) false (.slice none 0 0) []) 32 := heap_alloc_new w1 _
  have hl1 := hR1.lt
  have hR2 := hR1.next hA1
  have hZ2 := hZ1.next hA1
  have hS2 := hS1.trans hA1
  clear hA hZ hR hg1 HO hR1 hZ1
  go_upto_if 20 with (fail)
  go_cut [6, 7, 8] (fun s6 s7 s8 wx => RsCutR s w w1.heap.size wx)
  case first =>
    by_cases h0 : k = 0
    · subst h0
      simp only [if_true] at hPF
      have HO2 := Lib.hid (fun W hR => curbyte_any s j1 b1 (w.heap.size + 1) W hs6 l1 hR)
      have l2 := byteS_le (s := s) (i := j1) (b := b1) l1
      have g256 := byteS_256 s j1 b1
      unfold rrestS at hPF
      simp only at hPF
      unfold CBytePost at HO2
      generalize byteS s j1 b1 = q at *
      obtain ⟨q, j2, b2⟩ := q
      simp only at HO2 l2 g256 hPF
      go_wp2_with fail
      refine (HO2.out _ hR2).mono ?_
      rintro e w3 ⟨rfl, hR3, hg3⟩
      have hS3 : Since w w3 := since_far hS2 hg3 (Nat.le_succ _)
      have hZ3 := hZ2.grown hg3 (by simp)
      have hB3 := hB1.grown hg3 (fun e => by injection e with e; omega)
      clear hR2 hZ2 hB1 hg3 HO2 hS2 hA1
      have e4 : w3.cell? ⟨w1.heap.size, 1, none⟩ = some (.bool false) := hB3.cell 1
      have e5 := hB3.lt
      have e6 := hB3.free
      obtain ⟨ch, hch⟩ : ∃ ch : Bool, Hid (((q : Int) == 1) = ch) := ⟨_, rfl⟩
      have hch2 : decide (q = 1) = ch := by
        rw [← hch.out, Bool.eq_iff_iff, decide_eq_true_eq, beq_iff_eq]; omega
      rw [hch2] at hPF
      have hch3 := hch.out
      obtain ⟨w5, hw5⟩ : ∃ w5, Hid (w3.setCell ⟨w1.heap.size, 1, none⟩ (.bool ch) = w5) := ⟨_, rfl⟩
      have hR5 : Cur w5 (w.heap.size + 1) s j2 b2 := by
        rw [← hw5.out]
        exact hR3.far (by show w.heap.size + 1 ≠ w1.heap.size; omega) _
      have hB5 : Cel w5 w1.heap.size (rsCells 0 ch (.slice none 0 0) []) 32 := by
        rw [← hw5.out]
        exact hB3.set rfl
      have hZ5 : Cel w5 w.heap.size (rsCells 0 false (.slice none 0 0) []) 32 := by
        rw [← hw5.out]
        exact hZ3.far (by show w.heap.size ≠ w1.heap.size; omega) _
      have hS5 : Since w w5 := by
        rw [← hw5.out]
        exact hS3.setCell (by show w.heap.size ≤ w1.heap.size; omega) _
      clear hZ3 hB3 hR3 hS3 hch2 hch
      go_wp2_with fail
      rw [hw5.out]
      clear hw5 e4 e5 e6 hch3
      have HN := Lib.hid (fun W hR => curnum_any s j2 b2 (w.heap.size + 1) W hs6 l2 hR)
      obtain ⟨n4, l3⟩ := numS_le (s := s) (bad := b2) l2
      unfold CNumPost at HN
      generalize numS s j2 b2 = N at *
      obtain ⟨n, j3, b4⟩ := N
      simp only at HN l3 n4 hPF
      refine (HN.out _ hR5).mono ?_
      rintro e w6 ⟨rfl, hR6, hg6⟩
      have hS6 : Since w w6 := since_far hS5 hg6 (Nat.le_succ _)
      have hZ6 := hZ5.grown hg6 (by simp)
      have hB6 := hB5.grown hg6 (fun e => by injection e with e; omega)
      obtain ⟨lim, hlim⟩ : ∃ lim, Hid (lim = if 1 < q then 0 else n) := ⟨_, rfl⟩
      have hAe : (if 1 < q then (([] : List Atm), j3, b4) else ratomsS s n j3 b4) = ratomsS s lim j3 b4 := by
        rw [hlim.out]
        split
        · rfl
        · rfl
      rw [hAe] at hPF
      have hll : lim ≤ n ∧ (0 < lim → q ≤ 1) ∧ (q ≤ 1 → lim = n) := by
        rw [hlim.out]
        split <;> omega
      have HLL := Lib.hid hll
      obtain ⟨Q, hQ⟩ : ∃ Q, Hid (Q = ratomsS s lim j3 b4) := ⟨_, rfl⟩
      rw [← hQ.out] at hPF
      have hQl : Q.2.1 ≤ s.length := by rw [hQ.out]; exact ratoms_far _ _ _ l3
      have hL6 : Hid (RsLoopR s w w1.heap.size ch lim Q 0 w6) := ⟨[], .slice none 0 0, j3, b4, hR6, hB6, World.ownsRow_nil _ _ _ _, hZ6, hS6, by simp, by simp, l3, hQ.out⟩
      clear hR5 hg6 hZ5 hB5 hS5 HN hR6 hS6 hZ6 hB6 hQ hAe hlim hll
      go_wp2_with fail
      go_loopw [8] (fun x wr => ∃ m : Nat, x = .int .u32 (m : Int) ∧ m ≤ lim ∧ Hid (RsLoopR s w w1.heap.size ch lim Q m wr)) (fun x _ => lim - (intOf x).toNat)
      case atStart => exact ⟨0, rfl, Nat.zero_le _, hL6.out⟩
      case round =>
        clear hL6
        obtain ⟨m, rfl, hmn, hloop⟩ := hrel
        obtain ⟨P, sv, j, bb, hR, hB, how, hZ, hS, hPl, hPj, hjl, hQ⟩ := hloop.out
        clear hloop
        have HQ := Lib.hid hQ
        clear hQ
        have hlg := hR.lt
        have hlb := hB.lt
        have hfb := hB.free
        have hLL := HLL.out
        by_cases hgo : m < lim ∧ bb = false
        · obtain ⟨hm0, rfl⟩ := hgo
          have c2 := hR.c2f
          have hmi : (m : Int) < (n : Int) := by omega
          have hqi : (q : Int) ≤ 1 := by omega
          have hPj2 := hPj rfl
          have HAT := Lib.hid (fun W hR => curatom_any s j false (w.heap.size + 1) W hs6 hjl hR)
          have hla := ratomS_le (s := s) (bad := false) hjl
          have hlen := ratom_len (s := s) hjl
          obtain ⟨R, hRd⟩ : ∃ R, Hid (R = ratomS s j false) := ⟨_, rfl⟩
          have hQ2 : Hid (Q = ((P ++ [R.1]) ++ (ratomsS s (lim - (m + 1)) R.2.1 R.2.2).1, (ratomsS s (lim - (m + 1)) R.2.1 R.2.2).2)) := by
            have hnn : lim - m = (lim - (m + 1)) + 1 := by omega
            show _ = _
            rw [HQ.out, hnn, ratomsS, if_neg (by simp), ← hRd.out]; simp
          unfold CAtomPost at HAT
          rw [← hRd.out] at HAT hla hlen
          obtain ⟨⟨x_s, x_p, x_n, ⟨x_v0, x_l0⟩, ⟨x_v1, x_l1⟩, ⟨x_v2, x_l2⟩, ⟨x_v3, x_l3⟩⟩, j8, b8⟩ := R
          simp only [atmC] at HAT hla hQ2 hlen
          have hpj8 : b8 = false → (P ++ [((x_s, x_p, x_n, (x_v0, x_l0), (x_v1, x_l1), (x_v2, x_l2), (x_v3, x_l3)) : Atm)]).length ≤ j8 := by
            intro h
            have h1 := hlen h
            have h2 := atomB_pos ((x_s, x_p, x_n, (x_v0, x_l0), (x_v1, x_l1), (x_v2, x_l2), (x_v3, x_l3)) : Atm)
            rw [List.length_append, List.length_singleton]
            omega
          have hRd2 : Cur wr.drew (w.heap.size + 1) s j false := hR
          have hBd : Cel wr.drew w1.heap.size (rsCells 0 ch sv []) 32 := hB
          have hZd : Cel wr.drew w.heap.size (rsCells 0 false (.slice none 0 0) []) 32 := hZ
          have howd : wr.drew.ownsRow (w1.heap.size + 1) 26 11 sv P.length (rowA P) := how
          have hSd : Since w wr.drew := hS.drew
          have z2 : wr.cell? ⟨w1.heap.size, 2, none⟩ = some sv := hB.cell 2
          have hgb : w.heap.size + 1 < w1.heap.size := hl1
          have hone : Hid (∀ u ∈ (#[.string ⟨x_s.toArray⟩, .string ⟨x_p.toArray⟩, .int .i64 x_n, .bool x_v0, .string ⟨x_l0.toArray⟩, .bool x_v1, .string ⟨x_l1.toArray⟩, .bool x_v2, .string ⟨x_l2.toArray⟩, .bool x_v3, .string ⟨x_l3.toArray⟩] : Array Value).toList, u.oneCell' = true) := by show ∀ u ∈ _, _; simp [Value.oneCell']
          have hPl2 : P.length ≤ 900001 := by omega
          clear HQ hRd hR hB hZ how hS hlen hPj
          go_wp2_with fail
          go_region_law (first
            | (go_simp; go_at_call 29; (with_reducible refine Calls.mono (HAT.out _ ?_) ?_); exact hRd2; rintro e w8 ⟨rfl, hR8, hg8⟩; have hB8 := hBd.grown hg8 (fun e => by injection e with e; omega); have hZ8 := hZd.grown hg8 (by simp); have ho8 := own_far' howd hg8 (by omega); have hS8 := since_far hSd hg8 (Nat.le_succ _); have y2 : w8.cell? ⟨w1.heap.size, 2, none⟩ = some sv := hB8.cell 2; have hz8 : w1.heap.size < w8.heap.size := hB8.lt; have y2a : (w8.alloc (.cells #[.string ⟨x_s.toArray⟩, .string ⟨x_p.toArray⟩, .int .i64 x_n, .bool x_v0, .string ⟨x_l0.toArray⟩, .bool x_v1, .string ⟨x_l1.toArray⟩, .bool x_v2, .string ⟨x_l2.toArray⟩, .bool x_v3, .string ⟨x_l3.toArray⟩] 26)).cell? ⟨w1.heap.size, 2, none⟩ = some sv := Since.cell ((Since.refl _).alloc _) y2)
            | ((refine step_append_own rfl (.tmp 45) (.tmp 48) 30 rfl (w1.heap.size + 1) 26 i0 (.agg (atmC zeroAtm)) 11 136 Tryz.underlying30 HI.out.1 HI.out.2.1 HI.out.2.2.1 HI.out.2.2.2 rfl (by decide) sv P.length (rowA P) rfl (ho8.alloc _) ⟨w8.heap.size, 0, none⟩ 1 1 (#[.string ⟨x_s.toArray⟩, .string ⟨x_p.toArray⟩, .int .i64 x_n, .bool x_v0, .string ⟨x_l0.toArray⟩, .bool x_v1, .string ⟨x_l1.toArray⟩, .bool x_v2, .string ⟨x_l2.toArray⟩, .bool x_v3, .string ⟨x_l3.toArray⟩] : Array Value).toList rfl rfl (cellsN _ _ _ _ rfl) hone.out (by unfold maxLen; omega) (by omega) (by simp; omega) ?_); intro v9 w9 hown9 hg9 _; have hx9 := looptailR (x := ((x_s, x_p, x_n, (x_v0, x_l0), (x_v1, x_l1), (x_v2, x_l2), (x_v3, x_l3)) : Atm)) hB8 hR8 ho8 hZ8 hS8 hgb hg9 hown9; clear hown9 hg9; obtain ⟨g9, c9, rfl, yb, yf, yl, hX9⟩ := hx9))
          all_goals
            go_wp2_with fail
            have hX := hX9.out _ rfl
            have hXH := Lib.hid hX
            clear hX9 hX
            go_roundw
            case rel =>
              refine ⟨m + 1, by go_num, by omega, ⟨P ++ [((x_s, x_p, x_n, (x_v0, x_l0), (x_v1, x_l1), (x_v2, x_l2), (x_v3, x_l3)) : Atm)], .slice (some ⟨g9, 0, none⟩) (P.length + 1) c9, j8, b8, hXH.out.1, hXH.out.2.1, hXH.out.2.2.1, hXH.out.2.2.2.1, hXH.out.2.2.2.2, ?_, hpj8, hla, hQ2.out⟩⟩
              rw [List.length_append, List.length_singleton]
              omega
            case measure => simp [intOf]; omega
        · have hQe : Q = (P, j, bb) := by
            rw [HQ.out]
            by_cases hm0 : m < lim
            · obtain rfl : bb = true := by
                cases bb
                · exact absurd ⟨hm0, rfl⟩ hgo
                · rfl
              rw [ratomsS_bad]; simp
            · rw [show lim - m = 0 by omega, ratomsS]; simp
          rw [hQe] at hPF
          simp only at hPF
          have HT := Lib.hid (fun W hR => curtext_any s j bb (w.heap.size + 1) W hs6 hjl hR)
          unfold CTextPost at HT
          generalize textS s j bb = T9 at *
          obtain ⟨t9, j10, b10⟩ := T9
          simp only at HT hPF
          have HPF := Lib.hid hPF
          have hone : sv.oneCell' = true := by
            rcases Joins.ownsRow_forms how with ⟨rfl, _⟩ | ⟨_, _, rfl⟩ <;> simp [Value.oneCell']
          have HR0 := Lib.hid hR
          have HB0 := Lib.hid hB
          have HZ0 := Lib.hid hZ
          have HO0 := Lib.hid how
          have hcs : ((m : Int) < (n : Int) ∧ bb = true) ∨ ((m : Int) < (n : Int) ∧ bb = false ∧ ¬ (q : Int) ≤ 1) ∨ (¬ (m : Int) < (n : Int)) := by
            by_cases h1 : (m : Int) < (n : Int)
            · cases bb
              · refine .inr (.inl ⟨h1, rfl, fun h => hgo ⟨?_, rfl⟩⟩)
                have := hLL.2.2 (by omega)
                omega
              · exact .inl ⟨h1, rfl⟩
            · exact .inr (.inr h1)
          clear hPF HQ hQe hB hZ how hgo hLL HLL hPj
          rcases hcs with ⟨h1, rfl⟩ | ⟨h1, rfl, h2⟩ | h1
          case' inl => have c2 := hR.c2t
          case' inr.inl => have c2 := hR.c2f
          all_goals
            clear hR
            go_wp2_with fail
            refine (HT.out _ HR0.out).mono ?_
            rintro e w9 ⟨rfl, hR9, hg9⟩
            have hB9 := HB0.out.grown hg9 (fun e => by injection e with e; omega)
            have hZ9 := HZ0.out.grown hg9 (by simp)
            have ho9 := own_far' HO0.out hg9 (by omega)
            have hS9 : Since w w9 := since_far hS hg9 (Nat.le_succ _)
            have y3 : w9.cell? ⟨w1.heap.size, 3, none⟩ = some (.string ⟨#[]⟩) := hB9.cell 3
            have yf := hB9.free
            have yl := hB9.lt
            clear hlg hlb hfb
            go_wp2_with fail
            go_meet
            exact ⟨(0, ch, P, t9), sv, j10, b10, HPF.out, hR9.far (by show w.heap.size + 1 ≠ w1.heap.size; omega) _, hB9.set rfl, ownsRow_setCell_below ho9 (Nat.lt_succ_self _) _, hZ9.far (by show w.heap.size ≠ w1.heap.size; omega) _, hS9.setCell (by show w.heap.size ≤ w1.heap.size; omega) _, hone⟩
    · have hk0 : ((k : Int) == 0) = false := by simp; omega
      have hP2 : Hid (rpartsS s = (((k : Int), false, [], []), b1)) := by show _ = _; rw [hPF.out, if_neg h0]
      clear hPF
      go_wp2_with fail
      go_meet
      exact ⟨_, .slice none 0 0, j1, b1, hP2.out, hR2, hB1, World.ownsRow_nil _ _ _ _, hZ2, hS2, by simp [Value.oneCell']⟩
  case rest =>
    obtain ⟨⟨code, ch, L, ct⟩, sv, j, bb, hP, hR, hB, how, hZ, hS, hone1⟩ := hcut
    simp only at hB how
    have hlb := hB.lt
    have hlg : w.heap.size + 1 < w1.heap.size := hl1
    have hPL := rparts_len (s := s)
    rw [hP] at hPL
    simp only at hPL
    have hM0 : readRs s = if bb || (!mayRs (code, ch, L, ct) || decide (rsB (code, ch, L, ct) ≠ s)) then none else some (code, ch, L, ct) := by rw [← rreadRs_eq s (by omega)]; unfold rreadRs; rw [hP]
    have HPN : Hid (∀ W, (bb || (!mayRs (code, ch, L, ct) || decide (rsB (code, ch, L, ct) ≠ s))) = true → Since w W → RsPost s w (.returned (.tuple #[.agg #[.int .i64 0, .bool false, .slice none 0 0, .string ⟨#[]⟩], .int .i64 15])) W) := by
      intro W h hs
      have hn : readRs s = none := by rw [hM0, h]; rfl
      exact ⟨.slice none 0 0, by rw [hn]; rfl, by rw [hn]; exact atmRow_nil _, hs⟩
    have HPY : Hid (∀ W, (bb || (!mayRs (code, ch, L, ct) || decide (rsB (code, ch, L, ct) ≠ s))) = false → AtmRow W sv L → Since w W → RsPost s w (.returned (.tuple #[.agg #[.int .i64 code, .bool ch, sv, .string ⟨ct.toArray⟩], .int .i64 0])) W) := by
      intro W h hr hs
      have hn : readRs s = some (code, ch, L, ct) := by rw [hM0, h]; rfl
      exact ⟨sv, by rw [hn]; rfl, by rw [hn]; exact hr, hs⟩
    have HZ : Hid (wc.heap[w.heap.size]? = some (.cells #[.int .i64 0, .bool false, .slice none 0 0, .string ⟨#[]⟩] 32 (0, 0))) := hZ
    have hself : Hid (wc.setRow w.heap.size #[.int .i64 0, .bool false, .slice none 0 0, .string ⟨#[]⟩] = wc) := setRow_self _ w.heap.size _ _ _ HZ.out
    have honeZ : Hid ((#[.int .i64 0, .bool false, .slice none 0 0, .string ⟨#[]⟩] : Array Value).all (·.oneCell') = true) := by show _ = _; simp [Value.oneCell']
    have honeX : Hid ((#[.int .i64 code, .bool ch, sv, .string ⟨ct.toArray⟩] : Array Value).all (·.oneCell') = true) := by show _ = _; simp only [List.all_toArray, List.all_cons, List.all_nil, hone1, Bool.and_true]; rfl
    have hrow := atmRow_own how
    have HOW := Lib.hid how
    have HROW := Lib.hid hrow
    have HB2 : Cel wc w1.heap.size #[.int .i64 code, .bool ch, sv, .string ⟨ct.toArray⟩] 32 := hB
    have HB := Lib.hid HB2
    clear hM0 hZ how hB1 hZ2 hR2 hS2 hA1 hS1 hPF l1 k256 hB HB2 hrow hone1
    cases bb
    case true =>
      have c2 := hR.c2t
      have HPN2 := HPN.out wc rfl hS
      clear HPN HPY hPL hP hR
      go_wp2_with ((refine wpList_store_row rfl 32 (.tmp 2) (.tmp 59) rfl w.heap.size #[.int .i64 0, .bool false, .slice none 0 0, .string ⟨#[]⟩] rfl rfl 32 _ HZ.out rspInfo rfl honeZ.out ?_); rw [hself.out])
      have e0 : wc.cell? ⟨w.heap.size, 0, none⟩ = some (.int .i64 0) := Cel.cell (W := wc) HZ.out 0
      have e1 : wc.cell? ⟨w.heap.size, 1, none⟩ = some (.bool false) := Cel.cell (W := wc) HZ.out 1
      have e2 : wc.cell? ⟨w.heap.size, 2, none⟩ = some (.slice none 0 0) := Cel.cell (W := wc) HZ.out 2
      have e3 : wc.cell? ⟨w.heap.size, 3, none⟩ = some (.string ⟨#[]⟩) := Cel.cell (W := wc) HZ.out 3
      refine bodyPost_ret (v := .tuple #[.agg #[.int .i64 0, .bool false, .slice none 0 0, .string ⟨#[]⟩], .int .i64 15]) (by simp [results, Tryz.results14, go_sem, e0, e1, e2, e3]) rfl ?_
      exact HPN2
    case false =>
      have c2 := hR.c2f
      obtain ⟨hl1, hl2, hl3⟩ := hPL rfl
      have d0 : wc.cell? ⟨w1.heap.size, 0, none⟩ = some (.int .i64 code) := HB.out.cell 0
      have d1 : wc.cell? ⟨w1.heap.size, 1, none⟩ = some (.bool ch) := HB.out.cell 1
      have d2 : wc.cell? ⟨w1.heap.size, 2, none⟩ = some sv := HB.out.cell 2
      have d3 : wc.cell? ⟨w1.heap.size, 3, none⟩ = some (.string ⟨ct.toArray⟩) := HB.out.cell 3
      clear hPL hP hR
      cases hm : mayRs (code, ch, L, ct)
      · have HRN := Lib.hid (rresponse_no code ch sv L ct wc HROW.out (fun x hx => light_fits (hl3 x hx)) (fun x hx => light_light (hl3 x hx)) (by omega) hm)
        have HPN2 := Lib.hid (fun W h => HPN.out W (by rw [hm]; rfl) h)
        clear HPN HPY hl1 hl2 hl3 hm
        go_wp2_with fail
        refine HRN.out.mono ?_
        rintro e w4 ⟨rfl, hb⟩
        have HY4 : Hid (w4.heap[w.heap.size]? = some (.cells #[.int .i64 0, .bool false, .slice none 0 0, .string ⟨#[]⟩] 32 (0, 0))) := Cel.next (W := wc) HZ.out hb
        have hself4 : Hid (w4.setRow w.heap.size #[.int .i64 0, .bool false, .slice none 0 0, .string ⟨#[]⟩] = w4) := setRow_self _ w.heap.size _ _ _ HY4.out
        have hP4 := HPN2.out w4 (hS.trans hb)
        have hsl4 := World.block_lt_of_cell? w4 _ (hb.cell d0)
        clear d0 d1 d2 d3 hself HPN2
        go_wp2_with ((refine wpList_store_row rfl 32 (.tmp 2) (.tmp 72) rfl w.heap.size #[.int .i64 0, .bool false, .slice none 0 0, .string ⟨#[]⟩] rfl rfl 32 _ HY4.out rspInfo rfl honeZ.out ?_); rw [hself4.out])
        have e0 : w4.cell? ⟨w.heap.size, 0, none⟩ = some (.int .i64 0) := Cel.cell (W := w4) HY4.out 0
        have e1 : w4.cell? ⟨w.heap.size, 1, none⟩ = some (.bool false) := Cel.cell (W := w4) HY4.out 1
        have e2 : w4.cell? ⟨w.heap.size, 2, none⟩ = some (.slice none 0 0) := Cel.cell (W := w4) HY4.out 2
        have e3 : w4.cell? ⟨w.heap.size, 3, none⟩ = some (.string ⟨#[]⟩) := Cel.cell (W := w4) HY4.out 3
        refine bodyPost_ret (v := .tuple #[.agg #[.int .i64 0, .bool false, .slice none 0 0, .string ⟨#[]⟩], .int .i64 15]) (by simp [results, Tryz.results14, go_sem, e0, e1, e2, e3]) rfl ?_
        exact hP4
      · have HRY : Hid (Calls Tryz.prog 12 #[.agg #[.int .i64 code, .bool ch, sv, .string ⟨ct.toArray⟩]] wc fun e w' => e = .returned (.tuple #[.string ⟨(rsB (code, ch, L, ct)).toArray⟩, .int .i64 0]) ∧ Since wc w') := by
          rcases mayRs_cases hm with ⟨h0, hp, h16, hch, hL, hct⟩ | ⟨h0, _, hv, _⟩
          · simp only at h0 hp h16 hch hL hct
            subst hch; subst hL; subst hct
            obtain ⟨k9, rfl⟩ : ∃ k9 : Nat, code = (k9 : Int) := ⟨code.toNat, by omega⟩
            obtain ⟨a9, c9, e9⟩ := HROW.out.form
            simp only [List.length_nil] at e9
            subst e9
            have hq := rresponse_err k9 a9 c9 wc (by omega) (by omega) hm
            have he : rsB ((k9 : Int), false, [], []) = [UInt8.ofNat k9] := by unfold rsB; rw [if_pos (by simpa using h0)]; simp
            rw [he]
            exact hq
          · simp only at h0
            subst h0
            exact rresponse_yes ch sv L ct wc HROW.out hl3 (by omega) hm (by omega)
        obtain ⟨B9, hB9⟩ : ∃ B9, Hid (B9 = rsB (code, ch, L, ct)) := ⟨_, rfl⟩
        rw [← hB9.out] at HRY HPN HPY
        by_cases heq : B9 = s
        · have hq : (B9 == s) = true := by simpa using heq
          have HPY2 := Lib.hid (fun W hr h => HPY.out W (by rw [hm]; simp [heq]) hr h)
          clear HPN HPY hl1 hl2 hl3 hm hB9 heq
          go_wp2_with fail
          refine HRY.out.mono ?_
          rintro e w4 ⟨rfl, hb⟩
          have HY4 : Hid (w4.heap[w.heap.size]? = some (.cells #[.int .i64 0, .bool false, .slice none 0 0, .string ⟨#[]⟩] 32 (0, 0))) := Cel.next (W := wc) HZ.out hb
          have HB4 : Hid (w4.heap[w1.heap.size]? = some (.cells #[.int .i64 code, .bool ch, sv, .string ⟨ct.toArray⟩] 32 (0, 0))) := Cel.next (W := wc) HB.out hb
          have hP4 := Lib.hid (HPY2.out (w4.setRow w.heap.size #[.int .i64 code, .bool ch, sv, .string ⟨ct.toArray⟩]) (atmRow_own (own_far' (own_since HOW.out hb) (grown_row w4 w.heap.size _) (by omega))) (since_row (hS.trans hb) (Nat.le_refl _) _))
          have hX4 : Cel (w4.setRow w.heap.size #[.int .i64 code, .bool ch, sv, .string ⟨ct.toArray⟩]) w.heap.size #[.int .i64 code, .bool ch, sv, .string ⟨ct.toArray⟩] 32 := Cel.row (W := w4) HY4.out _
          have HX4 := Lib.hid hX4
          replace d0 := hb.cell d0
          replace d1 := hb.cell d1
          replace d2 := hb.cell d2
          replace d3 := hb.cell d3
          clear hX4 hself HPY2 hb
          go_wp2_with ((refine wpList_store_row rfl 32 (.tmp 2) (.tmp 73) rfl w.heap.size #[.int .i64 code, .bool ch, sv, .string ⟨ct.toArray⟩] rfl rfl 32 _ HY4.out rspInfo rfl honeX.out ?_))
          have e0 : (w4.setRow w.heap.size #[.int .i64 code, .bool ch, sv, .string ⟨ct.toArray⟩]).cell? ⟨w.heap.size, 0, none⟩ = some (.int .i64 code) := HX4.out.cell 0
          have e1 : (w4.setRow w.heap.size #[.int .i64 code, .bool ch, sv, .string ⟨ct.toArray⟩]).cell? ⟨w.heap.size, 1, none⟩ = some (.bool ch) := HX4.out.cell 1
          have e2 : (w4.setRow w.heap.size #[.int .i64 code, .bool ch, sv, .string ⟨ct.toArray⟩]).cell? ⟨w.heap.size, 2, none⟩ = some (sv) := HX4.out.cell 2
          have e3 : (w4.setRow w.heap.size #[.int .i64 code, .bool ch, sv, .string ⟨ct.toArray⟩]).cell? ⟨w.heap.size, 3, none⟩ = some (.string ⟨ct.toArray⟩) := HX4.out.cell 3
          refine bodyPost_ret (v := .tuple #[.agg #[.int .i64 code, .bool ch, sv, .string ⟨ct.toArray⟩], .int .i64 0]) (by simp [results, Tryz.results14, go_sem, e0, e1, e2, e3]) rfl ?_
          exact hP4.out
        · have hq : (B9 == s) = false := by simpa using heq
          have HPN2 := Lib.hid (fun W h => HPN.out W (by rw [hm]; simp [heq]) h)
          clear HPN HPY hl1 hl2 hl3 hm hB9 heq
          go_wp2_with fail
          refine HRY.out.mono ?_
          rintro e w4 ⟨rfl, hb⟩
          have HY4 : Hid (w4.heap[w.heap.size]? = some (.cells #[.int .i64 0, .bool false, .slice none 0 0, .string ⟨#[]⟩] 32 (0, 0))) := Cel.next (W := wc) HZ.out hb
          have hself4 : Hid (w4.setRow w.heap.size #[.int .i64 0, .bool false, .slice none 0 0, .string ⟨#[]⟩] = w4) := setRow_self _ w.heap.size _ _ _ HY4.out
          have hP4 := HPN2.out w4 (hS.trans hb)
          clear d0 d1 d2 d3 hself HPN2 hb
          go_wp2_with ((refine wpList_store_row rfl 32 (.tmp 2) (.tmp 72) rfl w.heap.size #[.int .i64 0, .bool false, .slice none 0 0, .string ⟨#[]⟩] rfl rfl 32 _ HY4.out rspInfo rfl honeZ.out ?_); rw [hself4.out])
          have e0 : w4.cell? ⟨w.heap.size, 0, none⟩ = some (.int .i64 0) := Cel.cell (W := w4) HY4.out 0
          have e1 : w4.cell? ⟨w.heap.size, 1, none⟩ = some (.bool false) := Cel.cell (W := w4) HY4.out 1
          have e2 : w4.cell? ⟨w.heap.size, 2, none⟩ = some (.slice none 0 0) := Cel.cell (W := w4) HY4.out 2
          have e3 : w4.cell? ⟨w.heap.size, 3, none⟩ = some (.string ⟨#[]⟩) := Cel.cell (W := w4) HY4.out 3
          refine bodyPost_ret (v := .tuple #[.agg #[.int .i64 0, .bool false, .slice none 0 0, .string ⟨#[]⟩], .int .i64 15]) (by simp [results, Tryz.results14, go_sem, e0, e1, e2, e3]) rfl ?_
          exact hP4
end Go.Proofs.YtkdeokgkjmboeaaGreatDoor

namespace Go.Proofs.YtkdeokgkjmboeaaGreatDoor
open Go.RowKit
attribute [local go_sem ↓] run_reqEq
attribute [local go_sem] eqRq_self

theorem Cel.at {W : World} {B : Nat} {cs : Array Value} {T : TypeId} (h : Cel W B cs T) : At W B 0 cs := fun j u hu => by rw [Nat.zero_add, h.cell]; exact hu
theorem lightAs_of {L : List Atm} (h : lightAs 20 L = true) : (∀ x ∈ L, lightB x = true) ∧ L.length ≤ 20 := by
  simp only [lightAs, Bool.and_eq_true, Bool.not_eq_true', decide_eq_false_iff_not, List.all_eq_true] at h
  exact ⟨h.2, by omega⟩
set_option maxHeartbeats 1000000 in
theorem refused_any (c : Int) (w : World) : Calls Tryz.prog 17 #[.int .i64 c] w fun e w' => e = .returned (.agg #[.int .i64 c, .bool false, .slice none 0 0, .string ⟨#[]⟩]) ∧ Since w w' := by
  go_enter Tryz.func17, Tryz.ntmps17
  go_wp2_with fail
  refine bodyPost_ret (v := .agg #[.int .i64 c, .bool false, .slice none 0 0, .string ⟨#[]⟩]) (by simp [results, Tryz.results17, go_sem]) rfl ?_
  exact ⟨rfl, (Since.refl _).alloc _⟩
section
variable {o : Oper} {x y : Operand} {ev : Operand → Value}
theorem add_txt (s t : List UInt8) (ho : o.op = .binOp .add 9 x y 9) (hx : ev x = .string ⟨s.toArray⟩) (hy : ev y = .string ⟨t.toArray⟩) (hl : s.length + t.length ≤ 1000000) (W : World) :
    (execOp ev o).run Tryz.prog W = .ok (.value (.string ⟨(s ++ t).toArray⟩)) W := by
  have q := cat_bytes s t
  have hl2 : s.length + t.length ≤ 9223372036854775807 := by omega
  simp only [execOp, ho]
  go_simp
  try omega
theorem eqs_req (k : Int) (a_s a_p : List UInt8) (a_n : Int) (a_v0 a_v1 a_v2 a_v3 : Bool) (a_l0 a_l1 a_l2 a_l3 : List UInt8) (ho : o.op = .binOp .eql 28 x y 28) (hx : ev x = .agg #[.int .i64 k, .string ⟨a_s.toArray⟩, .string ⟨a_p.toArray⟩, .int .i64 a_n, .bool a_v0, .string ⟨a_l0.toArray⟩, .bool a_v1, .string ⟨a_l1.toArray⟩, .bool a_v2, .string ⟨a_l2.toArray⟩, .bool a_v3, .string ⟨a_l3.toArray⟩]) (hy : ev y = .agg #[.int .i64 k, .string ⟨a_s.toArray⟩, .string ⟨a_p.toArray⟩, .int .i64 a_n, .bool a_v0, .string ⟨a_l0.toArray⟩, .bool a_v1, .string ⟨a_l1.toArray⟩, .bool a_v2, .string ⟨a_l2.toArray⟩, .bool a_v3, .string ⟨a_l3.toArray⟩]) (W : World) :
    (execOp ev o).run Tryz.prog W = .ok (.value (.bool true)) W := by
  simp only [execOp, ho]
  go_simp
end
theorem rrequest_yes' (k : Int) (a_s a_p : List UInt8) (a_n : Int) (a_v0 a_v1 a_v2 a_v3 : Bool) (a_l0 a_l1 a_l2 a_l3 : List UInt8) (w : World) (hF : FitsA ((a_s, a_p, a_n, (a_v0, a_l0), (a_v1, a_l1), (a_v2, a_l2), (a_v3, a_l3)) : Atm)) (hm : mayRq k ((a_s, a_p, a_n, (a_v0, a_l0), (a_v1, a_l1), (a_v2, a_l2), (a_v3, a_l3)) : Atm) = true) :
    Calls Tryz.prog 8 #[.agg #[.int .i64 k, .string ⟨a_s.toArray⟩, .string ⟨a_p.toArray⟩, .int .i64 a_n, .bool a_v0, .string ⟨a_l0.toArray⟩, .bool a_v1, .string ⟨a_l1.toArray⟩, .bool a_v2, .string ⟨a_l2.toArray⟩, .bool a_v3, .string ⟨a_l3.toArray⟩]] w fun e w' => e = .returned (.tuple #[.string ⟨(rqB k ((a_s, a_p, a_n, (a_v0, a_l0), (a_v1, a_l1), (a_v2, a_l2), (a_v3, a_l3)) : Atm)).toArray⟩, .int .i64 0]) ∧ Since w w' := by
  obtain ⟨n, rfl, _⟩ := mayRq_nat hm
  exact rrequest_yes n a_s a_p a_n a_v0 a_v1 a_v2 a_v3 a_l0 a_l1 a_l2 a_l3 w hF hm
theorem rresponse_good (code : Int) (ch : Bool) (v : Value) (L : List Atm) (ct : List UInt8) (w : World) (hv : AtmRow w v L) (hg : ∀ x ∈ L, lightB x = true) (hl : L.length ≤ 10000) (hm : mayRs (code, ch, L, ct) = true) (hT : (rsB (code, ch, L, ct)).length ≤ 500000) :
    Calls Tryz.prog 12 #[.agg #[.int .i64 code, .bool ch, v, .string ⟨ct.toArray⟩]] w fun e w' => e = .returned (.tuple #[.string ⟨(rsB (code, ch, L, ct)).toArray⟩, .int .i64 0]) ∧ Since w w' := by
  rcases mayRs_cases hm with ⟨h0, hp, h16, hch, hL, hct⟩ | ⟨h0, _, _, _⟩
  · simp only at h0 hp h16 hch hL hct
    subst hch; subst hL; subst hct
    obtain ⟨k9, rfl⟩ : ∃ k9 : Nat, code = (k9 : Int) := ⟨code.toNat, by omega⟩
    obtain ⟨a9, c9, e9⟩ := hv.form
    simp only [List.length_nil] at e9
    subst e9
    have hq := rresponse_err k9 a9 c9 w (by omega) (by omega) hm
    have he : rsB ((k9 : Int), false, [], []) = [UInt8.ofNat k9] := by unfold rsB; rw [if_pos (by simpa using h0)]; simp
    rw [he]
    exact hq
  · simp only at h0
    subst h0
    exact rresponse_yes ch v L ct w hv hg hl hm hT
theorem both_readreq (s : List UInt8) (w1 : World) (hE : Env w1) (hs : s.length ≤ 1000000) :
    ∃ (k2 : Int) (b_s b_p : List UInt8) (b_n : Int) (b_v0 : Bool) (b_l0 : List UInt8) (b_v1 : Bool) (b_l1 : List UInt8) (b_v2 : Bool) (b_l2 : List UInt8) (b_v3 : Bool) (b_l3 : List UInt8) (E2 : Int),
      (∀ W, Since w1 W → Calls Tryz.prog 9 #[.string ⟨s.toArray⟩] W fun e w' => e = .returned (.tuple #[.agg #[.int .i64 k2, .string ⟨b_s.toArray⟩, .string ⟨b_p.toArray⟩, .int .i64 b_n, .bool b_v0, .string ⟨b_l0.toArray⟩, .bool b_v1, .string ⟨b_l1.toArray⟩, .bool b_v2, .string ⟨b_l2.toArray⟩, .bool b_v3, .string ⟨b_l3.toArray⟩], .int .i64 E2]) ∧ Since W w') ∧
      (∀ W, Since w1 W → Calls Tryz.prog 10 #[.string ⟨s.toArray⟩] W fun e w' => e = .returned (.tuple #[.agg #[.int .i64 k2, .string ⟨b_s.toArray⟩, .string ⟨b_p.toArray⟩, .int .i64 b_n, .bool b_v0, .string ⟨b_l0.toArray⟩, .bool b_v1, .string ⟨b_l1.toArray⟩, .bool b_v2, .string ⟨b_l2.toArray⟩, .bool b_v3, .string ⟨b_l3.toArray⟩], .int .i64 E2]) ∧ Since W w') := by
  by_cases hl : 4096 < s.length
  · exact ⟨0, [], [], 0, false, [], false, [], false, [], false, [], 4, fun W _ => readreq_long s W hl hs, fun W _ => rreadreq_long s W hl hs⟩
  have hl2 : s.length ≤ 4096 := by omega
  have hq := rreadRq_eq s
  unfold rreadRq at hq
  obtain ⟨kk, hk⟩ : ∃ kk, kk = byteS s 0 false := ⟨_, rfl⟩
  rw [← hk] at hq
  obtain ⟨k, j1, b1⟩ := kk
  simp only at hq
  obtain ⟨aa, ha⟩ : ∃ aa, aa = ratomS s j1 b1 := ⟨_, rfl⟩
  rw [← ha] at hq
  obtain ⟨⟨c_s, c_p, c_n, ⟨c_v0, c_l0⟩, ⟨c_v1, c_l1⟩, ⟨c_v2, c_l2⟩, ⟨c_v3, c_l3⟩⟩, j2, b2⟩ := aa
  simp only at hq
  have hR := fun W => rreadreq_any s W hl2 k j1 j2 c_s c_p c_n c_v0 c_v1 c_v2 c_v3 c_l0 c_l1 c_l2 c_l3 b1 b2 hk.symm ha.symm
  cases hr : readRq s with
  | none =>
    rw [hr] at hq
    have hc : (b2 || (decide (j2 ≠ s.length) || !mayRq (k : Int) ((c_s, c_p, c_n, (c_v0, c_l0), (c_v1, c_l1), (c_v2, c_l2), (c_v3, c_l3)) : Atm))) = true := by
      cases h : (b2 || (decide (j2 ≠ s.length) || !mayRq (k : Int) ((c_s, c_p, c_n, (c_v0, c_l0), (c_v1, c_l1), (c_v2, c_l2), (c_v3, c_l3)) : Atm)))
      · rw [h] at hq; simp at hq
      · rfl
    rw [hc] at hR
    exact ⟨0, [], [], 0, false, [], false, [], false, [], false, [], 15, fun W h => readreq_no s W hl2 (hE.next h) hr, fun W _ => hR W⟩
  | some x =>
    obtain ⟨k9, ⟨d_s, d_p, d_n, ⟨d_v0, d_l0⟩, ⟨d_v1, d_l1⟩, ⟨d_v2, d_l2⟩, ⟨d_v3, d_l3⟩⟩⟩ := x
    rw [hr] at hq
    have hc : (b2 || (decide (j2 ≠ s.length) || !mayRq (k : Int) ((c_s, c_p, c_n, (c_v0, c_l0), (c_v1, c_l1), (c_v2, c_l2), (c_v3, c_l3)) : Atm))) = false := by
      cases h : (b2 || (decide (j2 ≠ s.length) || !mayRq (k : Int) ((c_s, c_p, c_n, (c_v0, c_l0), (c_v1, c_l1), (c_v2, c_l2), (c_v3, c_l3)) : Atm)))
      · rfl
      · rw [h] at hq; simp at hq
    rw [hc] at hq hR
    simp only [Bool.false_eq_true, if_false, Option.some.injEq, Prod.mk.injEq] at hq
    obtain ⟨rfl, rfl, rfl, rfl, ⟨rfl, rfl⟩, ⟨rfl, rfl⟩, ⟨rfl, rfl⟩, rfl, rfl⟩ := hq
    exact ⟨_, _, _, _, _, _, _, _, _, _, _, _, _, fun W h => readreq_yes s _ c_s c_p c_n c_v0 c_v1 c_v2 c_v3 c_l0 c_l1 c_l2 c_l3 W hl2 (hE.next h) hr, fun W _ => hR W⟩
theorem both_readresp (s : List UInt8) (w1 : World) (hE : Env w1) (hs : s.length ≤ 9000) :
    ∃ (zc : Int) (zh : Bool) (zL : List Atm) (zt : List UInt8) (E4 : Int), zL.length ≤ 1000000 ∧
      (∀ W, Since w1 W → Calls Tryz.prog 13 #[.string ⟨s.toArray⟩] W fun e w' => ∃ v, e = .returned (.tuple #[.agg #[.int .i64 zc, .bool zh, v, .string ⟨zt.toArray⟩], .int .i64 E4]) ∧ AtmRow w' v zL ∧ Since W w') ∧
      (∀ W, Since w1 W → Calls Tryz.prog 14 #[.string ⟨s.toArray⟩] W fun e w' => ∃ v, e = .returned (.tuple #[.agg #[.int .i64 zc, .bool zh, v, .string ⟨zt.toArray⟩], .int .i64 E4]) ∧ AtmRow w' v zL ∧ Since W w') := by
  refine ⟨_, _, _, _, _, ?_, fun W h => readresp_any s W (by omega) (hE.next h), fun W _ => rreadresp_any s W hs⟩
  cases hr : readRs s with
  | none => simp
  | some x =>
    obtain ⟨hm, he⟩ := readRs_some hr
    have h2 := (rsB_parts hm (n := s.length) (by rw [← he]; exact Nat.le_refl _)).1
    show x.2.2.1.length ≤ 1000000
    omega
end Go.Proofs.YtkdeokgkjmboeaaGreatDoor

namespace Go.Proofs.YtkdeokgkjmboeaaGreatDoor
open Go.RowKit

set_option maxHeartbeats 16000000 in
set_option maxRecDepth 100000 in
theorem fcalls_any (k : Int) (a_s a_p : List UInt8) (a_n : Int) (a_v0 a_v1 a_v2 a_v3 : Bool) (a_l0 a_l1 a_l2 a_l3 : List UInt8) (code1 : Int) (ch1 : Bool) (v1 : Value) (L1 : List Atm) (t1 : List UInt8) (code2 : Int) (ch2 : Bool) (v2 : Value) (L2 : List Atm) (t2 : List UInt8) (s : List UInt8) (w : World) (hE : Env w) (h1 : AtmRow w v1 L1) (h2 : AtmRow w v2 L2) (hf : FitsA ((a_s, a_p, a_n, (a_v0, a_l0), (a_v1, a_l1), (a_v2, a_l2), (a_v3, a_l3)) : Atm)) (hF1 : ∀ x ∈ L1, FitsA x) (hF2 : ∀ x ∈ L2, FitsA x) :
    Calls Tryz.prog 3 #[.agg #[.int .i64 k, .string ⟨a_s.toArray⟩, .string ⟨a_p.toArray⟩, .int .i64 a_n, .bool a_v0, .string ⟨a_l0.toArray⟩, .bool a_v1, .string ⟨a_l1.toArray⟩, .bool a_v2, .string ⟨a_l2.toArray⟩, .bool a_v3, .string ⟨a_l3.toArray⟩], .agg #[.int .i64 code1, .bool ch1, v1, .string ⟨t1.toArray⟩], .agg #[.int .i64 code2, .bool ch2, v2, .string ⟨t2.toArray⟩], .string ⟨s.toArray⟩] w fun e w' => e = .returned (.bool true) ∧ Since w w' := by
  obtain ⟨a1, c1, rfl⟩ := h1.form
  obtain ⟨a2, c2, rfl⟩ := h2.form
  have hS : Since w (((w.alloc (.cells #[.int .i64 k, .string ⟨a_s.toArray⟩, .string ⟨a_p.toArray⟩, .int .i64 a_n, .bool a_v0, .string ⟨a_l0.toArray⟩, .bool a_v1, .string ⟨a_l1.toArray⟩, .bool a_v2, .string ⟨a_l2.toArray⟩, .bool a_v3, .string ⟨a_l3.toArray⟩] 28)).alloc (.cells #[.int .i64 code1, .bool ch1, .slice a1 L1.length c1, .string ⟨t1.toArray⟩] 32)).alloc (.cells #[.int .i64 code2, .bool ch2, .slice a2 L2.length c2, .string ⟨t2.toArray⟩] 32)) := (((Since.refl _).alloc _).alloc _).alloc _
  have hQ : Cel (((w.alloc (.cells #[.int .i64 k, .string ⟨a_s.toArray⟩, .string ⟨a_p.toArray⟩, .int .i64 a_n, .bool a_v0, .string ⟨a_l0.toArray⟩, .bool a_v1, .string ⟨a_l1.toArray⟩, .bool a_v2, .string ⟨a_l2.toArray⟩, .bool a_v3, .string ⟨a_l3.toArray⟩] 28)).alloc (.cells #[.int .i64 code1, .bool ch1, .slice a1 L1.length c1, .string ⟨t1.toArray⟩] 32)).alloc (.cells #[.int .i64 code2, .bool ch2, .slice a2 L2.length c2, .string ⟨t2.toArray⟩] 32)) w.heap.size #[.int .i64 k, .string ⟨a_s.toArray⟩, .string ⟨a_p.toArray⟩, .int .i64 a_n, .bool a_v0, .string ⟨a_l0.toArray⟩, .bool a_v1, .string ⟨a_l1.toArray⟩, .bool a_v2, .string ⟨a_l2.toArray⟩, .bool a_v3, .string ⟨a_l3.toArray⟩] 28 := Cel.next (W := w.alloc (.cells #[.int .i64 k, .string ⟨a_s.toArray⟩, .string ⟨a_p.toArray⟩, .int .i64 a_n, .bool a_v0, .string ⟨a_l0.toArray⟩, .bool a_v1, .string ⟨a_l1.toArray⟩, .bool a_v2, .string ⟨a_l2.toArray⟩, .bool a_v3, .string ⟨a_l3.toArray⟩] 28)) (heap_alloc_new w _) (((Since.refl _).alloc _).alloc _)
  have hX : Cel (((w.alloc (.cells #[.int .i64 k, .string ⟨a_s.toArray⟩, .string ⟨a_p.toArray⟩, .int .i64 a_n, .bool a_v0, .string ⟨a_l0.toArray⟩, .bool a_v1, .string ⟨a_l1.toArray⟩, .bool a_v2, .string ⟨a_l2.toArray⟩, .bool a_v3, .string ⟨a_l3.toArray⟩] 28)).alloc (.cells #[.int .i64 code1, .bool ch1, .slice a1 L1.length c1, .string ⟨t1.toArray⟩] 32)).alloc (.cells #[.int .i64 code2, .bool ch2, .slice a2 L2.length c2, .string ⟨t2.toArray⟩] 32)) (w.heap.size + 1) #[.int .i64 code1, .bool ch1, .slice a1 L1.length c1, .string ⟨t1.toArray⟩] 32 := by
    have h := heap_alloc_new (w.alloc (.cells #[.int .i64 k, .string ⟨a_s.toArray⟩, .string ⟨a_p.toArray⟩, .int .i64 a_n, .bool a_v0, .string ⟨a_l0.toArray⟩, .bool a_v1, .string ⟨a_l1.toArray⟩, .bool a_v2, .string ⟨a_l2.toArray⟩, .bool a_v3, .string ⟨a_l3.toArray⟩] 28)) (.cells #[.int .i64 code1, .bool ch1, .slice a1 L1.length c1, .string ⟨t1.toArray⟩] 32)
    rw [World.size_alloc] at h
    exact Cel.next (W := (w.alloc (.cells #[.int .i64 k, .string ⟨a_s.toArray⟩, .string ⟨a_p.toArray⟩, .int .i64 a_n, .bool a_v0, .string ⟨a_l0.toArray⟩, .bool a_v1, .string ⟨a_l1.toArray⟩, .bool a_v2, .string ⟨a_l2.toArray⟩, .bool a_v3, .string ⟨a_l3.toArray⟩] 28)).alloc (.cells #[.int .i64 code1, .bool ch1, .slice a1 L1.length c1, .string ⟨t1.toArray⟩] 32)) h ((Since.refl _).alloc _)
  have hY : Cel (((w.alloc (.cells #[.int .i64 k, .string ⟨a_s.toArray⟩, .string ⟨a_p.toArray⟩, .int .i64 a_n, .bool a_v0, .string ⟨a_l0.toArray⟩, .bool a_v1, .string ⟨a_l1.toArray⟩, .bool a_v2, .string ⟨a_l2.toArray⟩, .bool a_v3, .string ⟨a_l3.toArray⟩] 28)).alloc (.cells #[.int .i64 code1, .bool ch1, .slice a1 L1.length c1, .string ⟨t1.toArray⟩] 32)).alloc (.cells #[.int .i64 code2, .bool ch2, .slice a2 L2.length c2, .string ⟨t2.toArray⟩] 32)) (w.heap.size + 1 + 1) #[.int .i64 code2, .bool ch2, .slice a2 L2.length c2, .string ⟨t2.toArray⟩] 32 := by
    have h := heap_alloc_new ((w.alloc (.cells #[.int .i64 k, .string ⟨a_s.toArray⟩, .string ⟨a_p.toArray⟩, .int .i64 a_n, .bool a_v0, .string ⟨a_l0.toArray⟩, .bool a_v1, .string ⟨a_l1.toArray⟩, .bool a_v2, .string ⟨a_l2.toArray⟩, .bool a_v3, .string ⟨a_l3.toArray⟩] 28)).alloc (.cells #[.int .i64 code1, .bool ch1, .slice a1 L1.length c1, .string ⟨t1.toArray⟩] 32)) (.cells #[.int .i64 code2, .bool ch2, .slice a2 L2.length c2, .string ⟨t2.toArray⟩] 32)
    rw [World.size_alloc, World.size_alloc] at h
    exact h
  have q0 : (((w.alloc (.cells #[.int .i64 k, .string ⟨a_s.toArray⟩, .string ⟨a_p.toArray⟩, .int .i64 a_n, .bool a_v0, .string ⟨a_l0.toArray⟩, .bool a_v1, .string ⟨a_l1.toArray⟩, .bool a_v2, .string ⟨a_l2.toArray⟩, .bool a_v3, .string ⟨a_l3.toArray⟩] 28)).alloc (.cells #[.int .i64 code1, .bool ch1, .slice a1 L1.length c1, .string ⟨t1.toArray⟩] 32)).alloc (.cells #[.int .i64 code2, .bool ch2, .slice a2 L2.length c2, .string ⟨t2.toArray⟩] 32)).cell? ⟨w.heap.size, 0, none⟩ = some (.int .i64 k) := hQ.cell 0
  have q1 : (((w.alloc (.cells #[.int .i64 k, .string ⟨a_s.toArray⟩, .string ⟨a_p.toArray⟩, .int .i64 a_n, .bool a_v0, .string ⟨a_l0.toArray⟩, .bool a_v1, .string ⟨a_l1.toArray⟩, .bool a_v2, .string ⟨a_l2.toArray⟩, .bool a_v3, .string ⟨a_l3.toArray⟩] 28)).alloc (.cells #[.int .i64 code1, .bool ch1, .slice a1 L1.length c1, .string ⟨t1.toArray⟩] 32)).alloc (.cells #[.int .i64 code2, .bool ch2, .slice a2 L2.length c2, .string ⟨t2.toArray⟩] 32)).cell? ⟨w.heap.size, 1, none⟩ = some (.string ⟨a_s.toArray⟩) := hQ.cell 1
  have q2 : (((w.alloc (.cells #[.int .i64 k, .string ⟨a_s.toArray⟩, .string ⟨a_p.toArray⟩, .int .i64 a_n, .bool a_v0, .string ⟨a_l0.toArray⟩, .bool a_v1, .string ⟨a_l1.toArray⟩, .bool a_v2, .string ⟨a_l2.toArray⟩, .bool a_v3, .string ⟨a_l3.toArray⟩] 28)).alloc (.cells #[.int .i64 code1, .bool ch1, .slice a1 L1.length c1, .string ⟨t1.toArray⟩] 32)).alloc (.cells #[.int .i64 code2, .bool ch2, .slice a2 L2.length c2, .string ⟨t2.toArray⟩] 32)).cell? ⟨w.heap.size, 2, none⟩ = some (.string ⟨a_p.toArray⟩) := hQ.cell 2
  have q3 : (((w.alloc (.cells #[.int .i64 k, .string ⟨a_s.toArray⟩, .string ⟨a_p.toArray⟩, .int .i64 a_n, .bool a_v0, .string ⟨a_l0.toArray⟩, .bool a_v1, .string ⟨a_l1.toArray⟩, .bool a_v2, .string ⟨a_l2.toArray⟩, .bool a_v3, .string ⟨a_l3.toArray⟩] 28)).alloc (.cells #[.int .i64 code1, .bool ch1, .slice a1 L1.length c1, .string ⟨t1.toArray⟩] 32)).alloc (.cells #[.int .i64 code2, .bool ch2, .slice a2 L2.length c2, .string ⟨t2.toArray⟩] 32)).cell? ⟨w.heap.size, 3, none⟩ = some (.int .i64 a_n) := hQ.cell 3
  have q4 : (((w.alloc (.cells #[.int .i64 k, .string ⟨a_s.toArray⟩, .string ⟨a_p.toArray⟩, .int .i64 a_n, .bool a_v0, .string ⟨a_l0.toArray⟩, .bool a_v1, .string ⟨a_l1.toArray⟩, .bool a_v2, .string ⟨a_l2.toArray⟩, .bool a_v3, .string ⟨a_l3.toArray⟩] 28)).alloc (.cells #[.int .i64 code1, .bool ch1, .slice a1 L1.length c1, .string ⟨t1.toArray⟩] 32)).alloc (.cells #[.int .i64 code2, .bool ch2, .slice a2 L2.length c2, .string ⟨t2.toArray⟩] 32)).cell? ⟨w.heap.size, 4, none⟩ = some (.bool a_v0) := hQ.cell 4
  have q5 : (((w.alloc (.cells #[.int .i64 k, .string ⟨a_s.toArray⟩, .string ⟨a_p.toArray⟩, .int .i64 a_n, .bool a_v0, .string ⟨a_l0.toArray⟩, .bool a_v1, .string ⟨a_l1.toArray⟩, .bool a_v2, .string ⟨a_l2.toArray⟩, .bool a_v3, .string ⟨a_l3.toArray⟩] 28)).alloc (.cells #[.int .i64 code1, .bool ch1, .slice a1 L1.length c1, .string ⟨t1.toArray⟩] 32)).alloc (.cells #[.int .i64 code2, .bool ch2, .slice a2 L2.length c2, .string ⟨t2.toArray⟩] 32)).cell? ⟨w.heap.size, 5, none⟩ = some (.string ⟨a_l0.toArray⟩) := hQ.cell 5
  have q6 : (((w.alloc (.cells #[.int .i64 k, .string ⟨a_s.toArray⟩, .string ⟨a_p.toArray⟩, .int .i64 a_n, .bool a_v0, .string ⟨a_l0.toArray⟩, .bool a_v1, .string ⟨a_l1.toArray⟩, .bool a_v2, .string ⟨a_l2.toArray⟩, .bool a_v3, .string ⟨a_l3.toArray⟩] 28)).alloc (.cells #[.int .i64 code1, .bool ch1, .slice a1 L1.length c1, .string ⟨t1.toArray⟩] 32)).alloc (.cells #[.int .i64 code2, .bool ch2, .slice a2 L2.length c2, .string ⟨t2.toArray⟩] 32)).cell? ⟨w.heap.size, 6, none⟩ = some (.bool a_v1) := hQ.cell 6
  have q7 : (((w.alloc (.cells #[.int .i64 k, .string ⟨a_s.toArray⟩, .string ⟨a_p.toArray⟩, .int .i64 a_n, .bool a_v0, .string ⟨a_l0.toArray⟩, .bool a_v1, .string ⟨a_l1.toArray⟩, .bool a_v2, .string ⟨a_l2.toArray⟩, .bool a_v3, .string ⟨a_l3.toArray⟩] 28)).alloc (.cells #[.int .i64 code1, .bool ch1, .slice a1 L1.length c1, .string ⟨t1.toArray⟩] 32)).alloc (.cells #[.int .i64 code2, .bool ch2, .slice a2 L2.length c2, .string ⟨t2.toArray⟩] 32)).cell? ⟨w.heap.size, 7, none⟩ = some (.string ⟨a_l1.toArray⟩) := hQ.cell 7
  have q8 : (((w.alloc (.cells #[.int .i64 k, .string ⟨a_s.toArray⟩, .string ⟨a_p.toArray⟩, .int .i64 a_n, .bool a_v0, .string ⟨a_l0.toArray⟩, .bool a_v1, .string ⟨a_l1.toArray⟩, .bool a_v2, .string ⟨a_l2.toArray⟩, .bool a_v3, .string ⟨a_l3.toArray⟩] 28)).alloc (.cells #[.int .i64 code1, .bool ch1, .slice a1 L1.length c1, .string ⟨t1.toArray⟩] 32)).alloc (.cells #[.int .i64 code2, .bool ch2, .slice a2 L2.length c2, .string ⟨t2.toArray⟩] 32)).cell? ⟨w.heap.size, 8, none⟩ = some (.bool a_v2) := hQ.cell 8
  have q9 : (((w.alloc (.cells #[.int .i64 k, .string ⟨a_s.toArray⟩, .string ⟨a_p.toArray⟩, .int .i64 a_n, .bool a_v0, .string ⟨a_l0.toArray⟩, .bool a_v1, .string ⟨a_l1.toArray⟩, .bool a_v2, .string ⟨a_l2.toArray⟩, .bool a_v3, .string ⟨a_l3.toArray⟩] 28)).alloc (.cells #[.int .i64 code1, .bool ch1, .slice a1 L1.length c1, .string ⟨t1.toArray⟩] 32)).alloc (.cells #[.int .i64 code2, .bool ch2, .slice a2 L2.length c2, .string ⟨t2.toArray⟩] 32)).cell? ⟨w.heap.size, 9, none⟩ = some (.string ⟨a_l2.toArray⟩) := hQ.cell 9
  have q10 : (((w.alloc (.cells #[.int .i64 k, .string ⟨a_s.toArray⟩, .string ⟨a_p.toArray⟩, .int .i64 a_n, .bool a_v0, .string ⟨a_l0.toArray⟩, .bool a_v1, .string ⟨a_l1.toArray⟩, .bool a_v2, .string ⟨a_l2.toArray⟩, .bool a_v3, .string ⟨a_l3.toArray⟩] 28)).alloc (.cells #[.int .i64 code1, .bool ch1, .slice a1 L1.length c1, .string ⟨t1.toArray⟩] 32)).alloc (.cells #[.int .i64 code2, .bool ch2, .slice a2 L2.length c2, .string ⟨t2.toArray⟩] 32)).cell? ⟨w.heap.size, 10, none⟩ = some (.bool a_v3) := hQ.cell 10
  have q11 : (((w.alloc (.cells #[.int .i64 k, .string ⟨a_s.toArray⟩, .string ⟨a_p.toArray⟩, .int .i64 a_n, .bool a_v0, .string ⟨a_l0.toArray⟩, .bool a_v1, .string ⟨a_l1.toArray⟩, .bool a_v2, .string ⟨a_l2.toArray⟩, .bool a_v3, .string ⟨a_l3.toArray⟩] 28)).alloc (.cells #[.int .i64 code1, .bool ch1, .slice a1 L1.length c1, .string ⟨t1.toArray⟩] 32)).alloc (.cells #[.int .i64 code2, .bool ch2, .slice a2 L2.length c2, .string ⟨t2.toArray⟩] 32)).cell? ⟨w.heap.size, 11, none⟩ = some (.string ⟨a_l3.toArray⟩) := hQ.cell 11
  have x0 : (((w.alloc (.cells #[.int .i64 k, .string ⟨a_s.toArray⟩, .string ⟨a_p.toArray⟩, .int .i64 a_n, .bool a_v0, .string ⟨a_l0.toArray⟩, .bool a_v1, .string ⟨a_l1.toArray⟩, .bool a_v2, .string ⟨a_l2.toArray⟩, .bool a_v3, .string ⟨a_l3.toArray⟩] 28)).alloc (.cells #[.int .i64 code1, .bool ch1, .slice a1 L1.length c1, .string ⟨t1.toArray⟩] 32)).alloc (.cells #[.int .i64 code2, .bool ch2, .slice a2 L2.length c2, .string ⟨t2.toArray⟩] 32)).cell? ⟨w.heap.size + 1, 0, none⟩ = some (.int .i64 code1) := hX.cell 0
  have x1 : (((w.alloc (.cells #[.int .i64 k, .string ⟨a_s.toArray⟩, .string ⟨a_p.toArray⟩, .int .i64 a_n, .bool a_v0, .string ⟨a_l0.toArray⟩, .bool a_v1, .string ⟨a_l1.toArray⟩, .bool a_v2, .string ⟨a_l2.toArray⟩, .bool a_v3, .string ⟨a_l3.toArray⟩] 28)).alloc (.cells #[.int .i64 code1, .bool ch1, .slice a1 L1.length c1, .string ⟨t1.toArray⟩] 32)).alloc (.cells #[.int .i64 code2, .bool ch2, .slice a2 L2.length c2, .string ⟨t2.toArray⟩] 32)).cell? ⟨w.heap.size + 1, 1, none⟩ = some (.bool ch1) := hX.cell 1
  have x2 : (((w.alloc (.cells #[.int .i64 k, .string ⟨a_s.toArray⟩, .string ⟨a_p.toArray⟩, .int .i64 a_n, .bool a_v0, .string ⟨a_l0.toArray⟩, .bool a_v1, .string ⟨a_l1.toArray⟩, .bool a_v2, .string ⟨a_l2.toArray⟩, .bool a_v3, .string ⟨a_l3.toArray⟩] 28)).alloc (.cells #[.int .i64 code1, .bool ch1, .slice a1 L1.length c1, .string ⟨t1.toArray⟩] 32)).alloc (.cells #[.int .i64 code2, .bool ch2, .slice a2 L2.length c2, .string ⟨t2.toArray⟩] 32)).cell? ⟨w.heap.size + 1, 2, none⟩ = some (.slice a1 L1.length c1) := hX.cell 2
  have x3 : (((w.alloc (.cells #[.int .i64 k, .string ⟨a_s.toArray⟩, .string ⟨a_p.toArray⟩, .int .i64 a_n, .bool a_v0, .string ⟨a_l0.toArray⟩, .bool a_v1, .string ⟨a_l1.toArray⟩, .bool a_v2, .string ⟨a_l2.toArray⟩, .bool a_v3, .string ⟨a_l3.toArray⟩] 28)).alloc (.cells #[.int .i64 code1, .bool ch1, .slice a1 L1.length c1, .string ⟨t1.toArray⟩] 32)).alloc (.cells #[.int .i64 code2, .bool ch2, .slice a2 L2.length c2, .string ⟨t2.toArray⟩] 32)).cell? ⟨w.heap.size + 1, 3, none⟩ = some (.string ⟨t1.toArray⟩) := hX.cell 3
  have y0 : (((w.alloc (.cells #[.int .i64 k, .string ⟨a_s.toArray⟩, .string ⟨a_p.toArray⟩, .int .i64 a_n, .bool a_v0, .string ⟨a_l0.toArray⟩, .bool a_v1, .string ⟨a_l1.toArray⟩, .bool a_v2, .string ⟨a_l2.toArray⟩, .bool a_v3, .string ⟨a_l3.toArray⟩] 28)).alloc (.cells #[.int .i64 code1, .bool ch1, .slice a1 L1.length c1, .string ⟨t1.toArray⟩] 32)).alloc (.cells #[.int .i64 code2, .bool ch2, .slice a2 L2.length c2, .string ⟨t2.toArray⟩] 32)).cell? ⟨w.heap.size + 1 + 1, 0, none⟩ = some (.int .i64 code2) := hY.cell 0
  have y1 : (((w.alloc (.cells #[.int .i64 k, .string ⟨a_s.toArray⟩, .string ⟨a_p.toArray⟩, .int .i64 a_n, .bool a_v0, .string ⟨a_l0.toArray⟩, .bool a_v1, .string ⟨a_l1.toArray⟩, .bool a_v2, .string ⟨a_l2.toArray⟩, .bool a_v3, .string ⟨a_l3.toArray⟩] 28)).alloc (.cells #[.int .i64 code1, .bool ch1, .slice a1 L1.length c1, .string ⟨t1.toArray⟩] 32)).alloc (.cells #[.int .i64 code2, .bool ch2, .slice a2 L2.length c2, .string ⟨t2.toArray⟩] 32)).cell? ⟨w.heap.size + 1 + 1, 1, none⟩ = some (.bool ch2) := hY.cell 1
  have y2 : (((w.alloc (.cells #[.int .i64 k, .string ⟨a_s.toArray⟩, .string ⟨a_p.toArray⟩, .int .i64 a_n, .bool a_v0, .string ⟨a_l0.toArray⟩, .bool a_v1, .string ⟨a_l1.toArray⟩, .bool a_v2, .string ⟨a_l2.toArray⟩, .bool a_v3, .string ⟨a_l3.toArray⟩] 28)).alloc (.cells #[.int .i64 code1, .bool ch1, .slice a1 L1.length c1, .string ⟨t1.toArray⟩] 32)).alloc (.cells #[.int .i64 code2, .bool ch2, .slice a2 L2.length c2, .string ⟨t2.toArray⟩] 32)).cell? ⟨w.heap.size + 1 + 1, 2, none⟩ = some (.slice a2 L2.length c2) := hY.cell 2
  have y3 : (((w.alloc (.cells #[.int .i64 k, .string ⟨a_s.toArray⟩, .string ⟨a_p.toArray⟩, .int .i64 a_n, .bool a_v0, .string ⟨a_l0.toArray⟩, .bool a_v1, .string ⟨a_l1.toArray⟩, .bool a_v2, .string ⟨a_l2.toArray⟩, .bool a_v3, .string ⟨a_l3.toArray⟩] 28)).alloc (.cells #[.int .i64 code1, .bool ch1, .slice a1 L1.length c1, .string ⟨t1.toArray⟩] 32)).alloc (.cells #[.int .i64 code2, .bool ch2, .slice a2 L2.length c2, .string ⟨t2.toArray⟩] 32)).cell? ⟨w.heap.size + 1 + 1, 3, none⟩ = some (.string ⟨t2.toArray⟩) := hY.cell 3
  clear hQ
  obtain ⟨LA, hLA⟩ : ∃ B, Hid (B = lightB ((a_s, a_p, a_n, (a_v0, a_l0), (a_v1, a_l1), (a_v2, a_l2), (a_v3, a_l3)) : Atm)) := ⟨_, rfl⟩
  obtain ⟨LX, hLX⟩ : ∃ B, Hid (B = lightAs 20 L1) := ⟨_, rfl⟩
  obtain ⟨LY, hLY⟩ : ∃ B, Hid (B = lightAs 20 L2) := ⟨_, rfl⟩
  have HLV : Hid (∀ W, Since (((w.alloc (.cells #[.int .i64 k, .string ⟨a_s.toArray⟩, .string ⟨a_p.toArray⟩, .int .i64 a_n, .bool a_v0, .string ⟨a_l0.toArray⟩, .bool a_v1, .string ⟨a_l1.toArray⟩, .bool a_v2, .string ⟨a_l2.toArray⟩, .bool a_v3, .string ⟨a_l3.toArray⟩] 28)).alloc (.cells #[.int .i64 code1, .bool ch1, .slice a1 L1.length c1, .string ⟨t1.toArray⟩] 32)).alloc (.cells #[.int .i64 code2, .bool ch2, .slice a2 L2.length c2, .string ⟨t2.toArray⟩] 32)) W → Calls Tryz.prog 4 #[] W fun e w' => e = .returned (.bool true) ∧ Since W w') := fun W hW => by
    exact lives24_any W (hE.next (hS.trans hW))
  have HLA : Hid (∀ W, Since (((w.alloc (.cells #[.int .i64 k, .string ⟨a_s.toArray⟩, .string ⟨a_p.toArray⟩, .int .i64 a_n, .bool a_v0, .string ⟨a_l0.toArray⟩, .bool a_v1, .string ⟨a_l1.toArray⟩, .bool a_v2, .string ⟨a_l2.toArray⟩, .bool a_v3, .string ⟨a_l3.toArray⟩] 28)).alloc (.cells #[.int .i64 code1, .bool ch1, .slice a1 L1.length c1, .string ⟨t1.toArray⟩] 32)).alloc (.cells #[.int .i64 code2, .bool ch2, .slice a2 L2.length c2, .string ⟨t2.toArray⟩] 32)) W → Calls Tryz.prog 5 #[.agg #[.string ⟨a_s.toArray⟩, .string ⟨a_p.toArray⟩, .int .i64 a_n, .bool a_v0, .string ⟨a_l0.toArray⟩, .bool a_v1, .string ⟨a_l1.toArray⟩, .bool a_v2, .string ⟨a_l2.toArray⟩, .bool a_v3, .string ⟨a_l3.toArray⟩]] W fun e w' => e = .returned (.bool LA) ∧ Since W w') := fun W hW => by
    rw [hLA.out]; exact light_any a_s a_p a_n a_v0 a_v1 a_v2 a_v3 a_l0 a_l1 a_l2 a_l3 W
  have HLX : Hid (∀ W, Since (((w.alloc (.cells #[.int .i64 k, .string ⟨a_s.toArray⟩, .string ⟨a_p.toArray⟩, .int .i64 a_n, .bool a_v0, .string ⟨a_l0.toArray⟩, .bool a_v1, .string ⟨a_l1.toArray⟩, .bool a_v2, .string ⟨a_l2.toArray⟩, .bool a_v3, .string ⟨a_l3.toArray⟩] 28)).alloc (.cells #[.int .i64 code1, .bool ch1, .slice a1 L1.length c1, .string ⟨t1.toArray⟩] 32)).alloc (.cells #[.int .i64 code2, .bool ch2, .slice a2 L2.length c2, .string ⟨t2.toArray⟩] 32)) W → Calls Tryz.prog 6 #[.slice a1 L1.length c1, .int .i64 20] W fun e w' => e = .returned (.bool LX) ∧ Since W w') := fun W hW => by
    rw [hLX.out]; exact lightAs_any _ L1 W (h1.next (hS.trans hW))
  have HLY : Hid (∀ W, Since (((w.alloc (.cells #[.int .i64 k, .string ⟨a_s.toArray⟩, .string ⟨a_p.toArray⟩, .int .i64 a_n, .bool a_v0, .string ⟨a_l0.toArray⟩, .bool a_v1, .string ⟨a_l1.toArray⟩, .bool a_v2, .string ⟨a_l2.toArray⟩, .bool a_v3, .string ⟨a_l3.toArray⟩] 28)).alloc (.cells #[.int .i64 code1, .bool ch1, .slice a1 L1.length c1, .string ⟨t1.toArray⟩] 32)).alloc (.cells #[.int .i64 code2, .bool ch2, .slice a2 L2.length c2, .string ⟨t2.toArray⟩] 32)) W → Calls Tryz.prog 6 #[.slice a2 L2.length c2, .int .i64 20] W fun e w' => e = .returned (.bool LY) ∧ Since W w') := fun W hW => by
    rw [hLY.out]; exact lightAs_any _ L2 W (h2.next (hS.trans hW))
  have HS := Since.refl (((w.alloc (.cells #[.int .i64 k, .string ⟨a_s.toArray⟩, .string ⟨a_p.toArray⟩, .int .i64 a_n, .bool a_v0, .string ⟨a_l0.toArray⟩, .bool a_v1, .string ⟨a_l1.toArray⟩, .bool a_v2, .string ⟨a_l2.toArray⟩, .bool a_v3, .string ⟨a_l3.toArray⟩] 28)).alloc (.cells #[.int .i64 code1, .bool ch1, .slice a1 L1.length c1, .string ⟨t1.toArray⟩] 32)).alloc (.cells #[.int .i64 code2, .bool ch2, .slice a2 L2.length c2, .string ⟨t2.toArray⟩] 32))
  have HE := Lib.hid hE
  have HH1 := Lib.hid h1
  have HH2 := Lib.hid h2
  have HF := Lib.hid hf
  have HF1 := Lib.hid hF1
  have HF2 := Lib.hid hF2
  clear hE h1 h2 hf hF1 hF2
  go_enter Tryz.func3, Tryz.ntmps3
  go_wp2_with fail
  generalize ((w.alloc (.cells #[.int .i64 k, .string ⟨a_s.toArray⟩, .string ⟨a_p.toArray⟩, .int .i64 a_n, .bool a_v0, .string ⟨a_l0.toArray⟩, .bool a_v1, .string ⟨a_l1.toArray⟩, .bool a_v2, .string ⟨a_l2.toArray⟩, .bool a_v3, .string ⟨a_l3.toArray⟩] 28)).alloc (.cells #[.int .i64 code1, .bool ch1, .slice a1 L1.length c1, .string ⟨t1.toArray⟩] 32)).alloc (.cells #[.int .i64 code2, .bool ch2, .slice a2 L2.length c2, .string ⟨t2.toArray⟩] 32) = w1 at *
  refine (HLV.out _ HS).mono ?_
  rintro e w2 ⟨rfl, hb⟩
  replace HS := HS.trans hb
  replace q0 := hb.cell q0
  replace q1 := hb.cell q1
  replace q2 := hb.cell q2
  replace q3 := hb.cell q3
  replace q4 := hb.cell q4
  replace q5 := hb.cell q5
  replace q6 := hb.cell q6
  replace q7 := hb.cell q7
  replace q8 := hb.cell q8
  replace q9 := hb.cell q9
  replace q10 := hb.cell q10
  replace q11 := hb.cell q11
  replace x0 := hb.cell x0
  replace x1 := hb.cell x1
  replace x2 := hb.cell x2
  replace x3 := hb.cell x3
  replace y0 := hb.cell y0
  replace y1 := hb.cell y1
  replace y2 := hb.cell y2
  replace y3 := hb.cell y3
  replace hX := hX.next hb
  replace hY := hY.next hb
  clear hb
  go_wp2_with fail
  refine (HLA.out _ HS).mono ?_
  rintro e w3 ⟨rfl, hb⟩
  replace HS := HS.trans hb
  replace q0 := hb.cell q0
  replace q1 := hb.cell q1
  replace q2 := hb.cell q2
  replace q3 := hb.cell q3
  replace q4 := hb.cell q4
  replace q5 := hb.cell q5
  replace q6 := hb.cell q6
  replace q7 := hb.cell q7
  replace q8 := hb.cell q8
  replace q9 := hb.cell q9
  replace q10 := hb.cell q10
  replace q11 := hb.cell q11
  replace x0 := hb.cell x0
  replace x1 := hb.cell x1
  replace x2 := hb.cell x2
  replace x3 := hb.cell x3
  replace y0 := hb.cell y0
  replace y1 := hb.cell y1
  replace y2 := hb.cell y2
  replace y3 := hb.cell y3
  replace hX := hX.next hb
  replace hY := hY.next hb
  clear hb
  cases LA
  · go_wp2_with fail
    go_ret
    exact ⟨rfl, hS.trans HS⟩
  go_wp2_with fail
  refine (HLX.out _ HS).mono ?_
  rintro e w4 ⟨rfl, hb⟩
  replace HS := HS.trans hb
  replace q0 := hb.cell q0
  replace q1 := hb.cell q1
  replace q2 := hb.cell q2
  replace q3 := hb.cell q3
  replace q4 := hb.cell q4
  replace q5 := hb.cell q5
  replace q6 := hb.cell q6
  replace q7 := hb.cell q7
  replace q8 := hb.cell q8
  replace q9 := hb.cell q9
  replace q10 := hb.cell q10
  replace q11 := hb.cell q11
  replace x0 := hb.cell x0
  replace x1 := hb.cell x1
  replace x2 := hb.cell x2
  replace x3 := hb.cell x3
  replace y0 := hb.cell y0
  replace y1 := hb.cell y1
  replace y2 := hb.cell y2
  replace y3 := hb.cell y3
  replace hX := hX.next hb
  replace hY := hY.next hb
  clear hb
  cases LX
  · go_wp2_with fail
    go_ret
    exact ⟨rfl, hS.trans HS⟩
  go_wp2_with fail
  refine (HLY.out _ HS).mono ?_
  rintro e w5 ⟨rfl, hb⟩
  replace HS := HS.trans hb
  replace q0 := hb.cell q0
  replace q1 := hb.cell q1
  replace q2 := hb.cell q2
  replace q3 := hb.cell q3
  replace q4 := hb.cell q4
  replace q5 := hb.cell q5
  replace q6 := hb.cell q6
  replace q7 := hb.cell q7
  replace q8 := hb.cell q8
  replace q9 := hb.cell q9
  replace q10 := hb.cell q10
  replace q11 := hb.cell q11
  replace x0 := hb.cell x0
  replace x1 := hb.cell x1
  replace x2 := hb.cell x2
  replace x3 := hb.cell x3
  replace y0 := hb.cell y0
  replace y1 := hb.cell y1
  replace y2 := hb.cell y2
  replace y3 := hb.cell y3
  replace hX := hX.next hb
  replace hY := hY.next hb
  clear hb
  cases LY
  · go_wp2_with fail
    go_ret
    exact ⟨rfl, hS.trans HS⟩
  by_cases gt1 : 2000 < t1.length
  · have gt1' : (2000 : Int) < (t1.length : Int) := by omega
    go_wp2_with fail
    go_ret
    exact ⟨rfl, hS.trans HS⟩
  have gt1' : ¬ (2000 : Int) < (t1.length : Int) := by omega
  by_cases gs : 5000 < s.length
  · have gs' : (5000 : Int) < (s.length : Int) := by omega
    go_wp2_with fail
    go_ret
    exact ⟨rfl, hS.trans HS⟩
  have gs' : ¬ (5000 : Int) < (s.length : Int) := by omega
  obtain ⟨hl1, hm1⟩ := lightAs_of hLX.out.symm
  obtain ⟨hl2, hm2⟩ := lightAs_of hLY.out.symm
  obtain ⟨X1, E1, hQE⟩ : ∃ (X : List UInt8) (E : Int), Hid ((mayRq k ((a_s, a_p, a_n, (a_v0, a_l0), (a_v1, a_l1), (a_v2, a_l2), (a_v3, a_l3)) : Atm) = true ∧ X = rqB k ((a_s, a_p, a_n, (a_v0, a_l0), (a_v1, a_l1), (a_v2, a_l2), (a_v3, a_l3)) : Atm) ∧ E = 0) ∨ (mayRq k ((a_s, a_p, a_n, (a_v0, a_l0), (a_v1, a_l1), (a_v2, a_l2), (a_v3, a_l3)) : Atm) = false ∧ X = [] ∧ E = 2)) := by
    cases h : mayRq k ((a_s, a_p, a_n, (a_v0, a_l0), (a_v1, a_l1), (a_v2, a_l2), (a_v3, a_l3)) : Atm)
    · exact ⟨[], 2, .inr ⟨rfl, rfl, rfl⟩⟩
    · exact ⟨_, 0, .inl ⟨rfl, rfl, rfl⟩⟩
  have HRQ : Hid (∀ W, Since w1 W → Calls Tryz.prog 7 #[.agg #[.int .i64 k, .string ⟨a_s.toArray⟩, .string ⟨a_p.toArray⟩, .int .i64 a_n, .bool a_v0, .string ⟨a_l0.toArray⟩, .bool a_v1, .string ⟨a_l1.toArray⟩, .bool a_v2, .string ⟨a_l2.toArray⟩, .bool a_v3, .string ⟨a_l3.toArray⟩]] W fun e w' => e = .returned (.tuple #[.string ⟨X1.toArray⟩, .int .i64 E1]) ∧ Since W w') := by
    intro W hW
    rcases hQE.out with ⟨h, rfl, rfl⟩ | ⟨h, rfl, rfl⟩
    · exact request_yes' k a_s a_p a_n a_v0 a_v1 a_v2 a_v3 a_l0 a_l1 a_l2 a_l3 W HF.out (HE.out.next (hS.trans hW)) h
    · exact request_no k a_s a_p a_n a_v0 a_v1 a_v2 a_v3 a_l0 a_l1 a_l2 a_l3 W HF.out (HE.out.next (hS.trans hW)) h
  have HRQR : Hid (∀ W, Since w1 W → Calls Tryz.prog 8 #[.agg #[.int .i64 k, .string ⟨a_s.toArray⟩, .string ⟨a_p.toArray⟩, .int .i64 a_n, .bool a_v0, .string ⟨a_l0.toArray⟩, .bool a_v1, .string ⟨a_l1.toArray⟩, .bool a_v2, .string ⟨a_l2.toArray⟩, .bool a_v3, .string ⟨a_l3.toArray⟩]] W fun e w' => e = .returned (.tuple #[.string ⟨X1.toArray⟩, .int .i64 E1]) ∧ Since W w') := by
    intro W hW
    rcases hQE.out with ⟨h, rfl, rfl⟩ | ⟨h, rfl, rfl⟩
    · exact rrequest_yes' k a_s a_p a_n a_v0 a_v1 a_v2 a_v3 a_l0 a_l1 a_l2 a_l3 W HF.out h
    · exact rrequest_no k a_s a_p a_n a_v0 a_v1 a_v2 a_v3 a_l0 a_l1 a_l2 a_l3 W HF.out h
  have hX1 : X1.length ≤ 5000 := by
    rcases hQE.out with ⟨h, rfl, rfl⟩ | ⟨h, rfl, rfl⟩
    · obtain ⟨_, _, _, _, h4⟩ := mayRq_nat h
      have := rqB_le (k := k) h4; omega
    · exact Nat.zero_le _
  obtain ⟨k2, b_s, b_p, b_n, b_v0, b_l0, b_v1, b_l1, b_v2, b_l2, b_v3, b_l3, E2, hRD, hRDR⟩ := both_readreq s w1 (HE.out.next hS) (by omega)
  obtain ⟨X3, E3, hTE⟩ : ∃ (X : List UInt8) (E : Int), Hid ((mayRs (code1, ch1, L1, t1) = true ∧ X = rsB (code1, ch1, L1, t1) ∧ E = 0) ∨ (mayRs (code1, ch1, L1, t1) = false ∧ X = [] ∧ E = 2)) := by
    cases h : mayRs (code1, ch1, L1, t1)
    · exact ⟨[], 2, .inr ⟨rfl, rfl, rfl⟩⟩
    · exact ⟨_, 0, .inl ⟨rfl, rfl, rfl⟩⟩
  have hrl : (rsB (code1, ch1, L1, t1)).length ≤ 100000 := rsB_light hl1 hm1 (by show t1.length ≤ 2000; omega)
  have HRS : Hid (∀ W, Since w1 W → Calls Tryz.prog 11 #[.agg #[.int .i64 code1, .bool ch1, .slice a1 L1.length c1, .string ⟨t1.toArray⟩]] W fun e w' => e = .returned (.tuple #[.string ⟨X3.toArray⟩, .int .i64 E3]) ∧ Since W w') := by
    intro W hW
    rcases hTE.out with ⟨h, rfl, rfl⟩ | ⟨h, rfl, rfl⟩
    · exact response_good code1 ch1 _ L1 t1 W (HE.out.next (hS.trans hW)) (HH1.out.next (hS.trans hW)) hl1 (by omega) h (by omega)
    · exact response_no code1 ch1 _ L1 t1 W (HE.out.next (hS.trans hW)) (HH1.out.next (hS.trans hW)) HF1.out (fun x hx => light_light (hl1 x hx)) (by omega) h
  have HRSR : Hid (∀ W, Since w1 W → Calls Tryz.prog 12 #[.agg #[.int .i64 code1, .bool ch1, .slice a1 L1.length c1, .string ⟨t1.toArray⟩]] W fun e w' => e = .returned (.tuple #[.string ⟨X3.toArray⟩, .int .i64 E3]) ∧ Since W w') := by
    intro W hW
    rcases hTE.out with ⟨h, rfl, rfl⟩ | ⟨h, rfl, rfl⟩
    · exact rresponse_good code1 ch1 _ L1 t1 W (HH1.out.next (hS.trans hW)) hl1 (by omega) h (by omega)
    · exact rresponse_no code1 ch1 _ L1 t1 W (HH1.out.next (hS.trans hW)) HF1.out (fun x hx => light_light (hl1 x hx)) (by omega) h
  have hX3 : X3.length ≤ 100000 := by
    rcases hTE.out with ⟨h, rfl, rfl⟩ | ⟨h, rfl, rfl⟩
    · exact hrl
    · exact Nat.zero_le _
  obtain ⟨zc, zh, zL, zt, E4, hzl, hRR, hRRR⟩ := both_readresp s w1 (HE.out.next hS) (by omega)
  obtain ⟨SXY, hSXY⟩ : ∃ B, Hid (B = sameR (code1, ch1, L1, t1) (code2, ch2, L2, t2)) := ⟨_, rfl⟩
  have HSM : Hid (∀ W, Since w1 W → Calls Tryz.prog 16 #[.agg #[.int .i64 code1, .bool ch1, .slice a1 L1.length c1, .string ⟨t1.toArray⟩], .agg #[.int .i64 code2, .bool ch2, .slice a2 L2.length c2, .string ⟨t2.toArray⟩]] W fun e w' => e = .returned (.bool SXY) ∧ Since W w') := by
    intro W hW
    rw [hSXY.out]; exact fsame_any code1 code2 ch1 ch2 _ _ L1 L2 t1 t2 W (HH1.out.next (hS.trans hW)) (HH2.out.next (hS.trans hW)) (by omega) (by omega)
  have HSMR : Hid (∀ W, Since w1 W → Calls Tryz.prog 15 #[.agg #[.int .i64 code1, .bool ch1, .slice a1 L1.length c1, .string ⟨t1.toArray⟩], .agg #[.int .i64 code2, .bool ch2, .slice a2 L2.length c2, .string ⟨t2.toArray⟩]] W fun e w' => e = .returned (.bool SXY) ∧ Since W w') := by
    intro W hW
    rw [hSXY.out]; exact rsame24_any code1 code2 ch1 ch2 _ _ L1 L2 t1 t2 W (HH1.out.next (hS.trans hW)) (HH2.out.next (hS.trans hW)) (by omega) (by omega)
  have HZZ : Hid (∀ W u v, AtmRow W u zL → AtmRow W v zL → Calls Tryz.prog 15 #[.agg #[.int .i64 zc, .bool zh, u, .string ⟨zt.toArray⟩], .agg #[.int .i64 zc, .bool zh, v, .string ⟨zt.toArray⟩]] W fun e w' => e = .returned (.bool true) ∧ Since W w') := by
    intro W u v hu hv
    have h := rsame24_any zc zc zh zh u v zL zL zt zt W hu hv hzl hzl
    rw [sameR_self] at h
    exact h
  have HSR : Hid (∀ W, Calls Tryz.prog 16 #[.agg #[.int .i64 code1, .bool false, .slice none 0 0, .string ⟨#[]⟩], .agg #[.int .i64 code1, .bool false, .slice none 0 0, .string ⟨#[]⟩]] W fun e w' => e = .returned (.bool true) ∧ Since W w') := by
    intro W
    have h := fsame_any code1 code1 false false _ _ [] [] [] [] W (atmRow_nil W) (atmRow_nil W) (by simp) (by simp)
    rw [sameR_self] at h
    exact h
  have HJ : Hid (∀ W : World, Calls Tryz.prog 19 #[.slice (some ⟨W.heap.size, 0, none⟩) 3 3] (W.alloc (.cells #[.string ⟨X1.toArray⟩, .string ⟨X3.toArray⟩, .string ⟨s.toArray⟩] 9)) fun e w' => e = .returned (.string ⟨((X1 ++ X3) ++ s).toArray⟩) ∧ Since (W.alloc (.cells #[.string ⟨X1.toArray⟩, .string ⟨X3.toArray⟩, .string ⟨s.toArray⟩] 9)) w') := by
    intro W
    have e : ([X1, X3, s] : List (List UInt8)).flatten = (X1 ++ X3) ++ s := by simp
    have h := fjoin_any (.slice (some ⟨W.heap.size, 0, none⟩) 3 3) [X1, X3, s] _ (row_of_lit W 9 [X1, X3, s] W.heap.size 3 rfl rfl) (by simp) (by rw [e]; simp only [List.length_append]; omega)
    rw [e] at h
    exact h
  obtain ⟨J, hJ⟩ : ∃ J, Hid (J = (X1 ++ X3) ++ s) := ⟨_, rfl⟩
  rw [← hJ.out] at HJ
  have HRD := Lib.hid hRD
  have HRDR := Lib.hid hRDR
  have HRR := Lib.hid hRR
  have HRRR := Lib.hid hRRR
  clear hRD hRDR hRR hRRR hQE hTE hrl hSXY HLV HLA HLX HLY hl1 hl2 hLA hLX hLY HE HF HF1 HF2 HH1 HH2
  go_wp2_with fail
  refine (HRQ.out _ HS).mono ?_
  rintro e w6 ⟨rfl, hb⟩
  replace HS := HS.trans hb
  replace q0 := hb.cell q0
  replace q1 := hb.cell q1
  replace q2 := hb.cell q2
  replace q3 := hb.cell q3
  replace q4 := hb.cell q4
  replace q5 := hb.cell q5
  replace q6 := hb.cell q6
  replace q7 := hb.cell q7
  replace q8 := hb.cell q8
  replace q9 := hb.cell q9
  replace q10 := hb.cell q10
  replace q11 := hb.cell q11
  replace x0 := hb.cell x0
  replace x1 := hb.cell x1
  replace x2 := hb.cell x2
  replace x3 := hb.cell x3
  replace y0 := hb.cell y0
  replace y1 := hb.cell y1
  replace y2 := hb.cell y2
  replace y3 := hb.cell y3
  replace hX := hX.next hb
  replace hY := hY.next hb
  clear hb
  go_wp2_with fail
  refine (HRQR.out _ HS).mono ?_
  rintro e w7 ⟨rfl, hb⟩
  replace HS := HS.trans hb
  replace q0 := hb.cell q0
  replace q1 := hb.cell q1
  replace q2 := hb.cell q2
  replace q3 := hb.cell q3
  replace q4 := hb.cell q4
  replace q5 := hb.cell q5
  replace q6 := hb.cell q6
  replace q7 := hb.cell q7
  replace q8 := hb.cell q8
  replace q9 := hb.cell q9
  replace q10 := hb.cell q10
  replace q11 := hb.cell q11
  replace x0 := hb.cell x0
  replace x1 := hb.cell x1
  replace x2 := hb.cell x2
  replace x3 := hb.cell x3
  replace y0 := hb.cell y0
  replace y1 := hb.cell y1
  replace y2 := hb.cell y2
  replace y3 := hb.cell y3
  replace hX := hX.next hb
  replace hY := hY.next hb
  clear hb
  clear q0 q1 q2 q3 q4 q5 q6 q7 q8 q9 q10 q11
  go_wp2_with fail
  refine (HRD.out _ HS).mono ?_
  rintro e w8 ⟨rfl, hb⟩
  replace HS := HS.trans hb
  replace x0 := hb.cell x0
  replace x1 := hb.cell x1
  replace x2 := hb.cell x2
  replace x3 := hb.cell x3
  replace y0 := hb.cell y0
  replace y1 := hb.cell y1
  replace y2 := hb.cell y2
  replace y3 := hb.cell y3
  replace hX := hX.next hb
  replace hY := hY.next hb
  clear hb
  go_upto_region 8 with (fail)
  replace HS := HS.alloc (.cells #[.int .i64 k2, .string ⟨b_s.toArray⟩, .string ⟨b_p.toArray⟩, .int .i64 b_n, .bool b_v0, .string ⟨b_l0.toArray⟩, .bool b_v1, .string ⟨b_l1.toArray⟩, .bool b_v2, .string ⟨b_l2.toArray⟩, .bool b_v3, .string ⟨b_l3.toArray⟩] 28)
  replace x0 := Since.cell ((Since.refl w8).alloc (.cells #[.int .i64 k2, .string ⟨b_s.toArray⟩, .string ⟨b_p.toArray⟩, .int .i64 b_n, .bool b_v0, .string ⟨b_l0.toArray⟩, .bool b_v1, .string ⟨b_l1.toArray⟩, .bool b_v2, .string ⟨b_l2.toArray⟩, .bool b_v3, .string ⟨b_l3.toArray⟩] 28)) x0
  replace x1 := Since.cell ((Since.refl w8).alloc (.cells #[.int .i64 k2, .string ⟨b_s.toArray⟩, .string ⟨b_p.toArray⟩, .int .i64 b_n, .bool b_v0, .string ⟨b_l0.toArray⟩, .bool b_v1, .string ⟨b_l1.toArray⟩, .bool b_v2, .string ⟨b_l2.toArray⟩, .bool b_v3, .string ⟨b_l3.toArray⟩] 28)) x1
  replace x2 := Since.cell ((Since.refl w8).alloc (.cells #[.int .i64 k2, .string ⟨b_s.toArray⟩, .string ⟨b_p.toArray⟩, .int .i64 b_n, .bool b_v0, .string ⟨b_l0.toArray⟩, .bool b_v1, .string ⟨b_l1.toArray⟩, .bool b_v2, .string ⟨b_l2.toArray⟩, .bool b_v3, .string ⟨b_l3.toArray⟩] 28)) x2
  replace x3 := Since.cell ((Since.refl w8).alloc (.cells #[.int .i64 k2, .string ⟨b_s.toArray⟩, .string ⟨b_p.toArray⟩, .int .i64 b_n, .bool b_v0, .string ⟨b_l0.toArray⟩, .bool b_v1, .string ⟨b_l1.toArray⟩, .bool b_v2, .string ⟨b_l2.toArray⟩, .bool b_v3, .string ⟨b_l3.toArray⟩] 28)) x3
  replace y0 := Since.cell ((Since.refl w8).alloc (.cells #[.int .i64 k2, .string ⟨b_s.toArray⟩, .string ⟨b_p.toArray⟩, .int .i64 b_n, .bool b_v0, .string ⟨b_l0.toArray⟩, .bool b_v1, .string ⟨b_l1.toArray⟩, .bool b_v2, .string ⟨b_l2.toArray⟩, .bool b_v3, .string ⟨b_l3.toArray⟩] 28)) y0
  replace y1 := Since.cell ((Since.refl w8).alloc (.cells #[.int .i64 k2, .string ⟨b_s.toArray⟩, .string ⟨b_p.toArray⟩, .int .i64 b_n, .bool b_v0, .string ⟨b_l0.toArray⟩, .bool b_v1, .string ⟨b_l1.toArray⟩, .bool b_v2, .string ⟨b_l2.toArray⟩, .bool b_v3, .string ⟨b_l3.toArray⟩] 28)) y1
  replace y2 := Since.cell ((Since.refl w8).alloc (.cells #[.int .i64 k2, .string ⟨b_s.toArray⟩, .string ⟨b_p.toArray⟩, .int .i64 b_n, .bool b_v0, .string ⟨b_l0.toArray⟩, .bool b_v1, .string ⟨b_l1.toArray⟩, .bool b_v2, .string ⟨b_l2.toArray⟩, .bool b_v3, .string ⟨b_l3.toArray⟩] 28)) y2
  replace y3 := Since.cell ((Since.refl w8).alloc (.cells #[.int .i64 k2, .string ⟨b_s.toArray⟩, .string ⟨b_p.toArray⟩, .int .i64 b_n, .bool b_v0, .string ⟨b_l0.toArray⟩, .bool b_v1, .string ⟨b_l1.toArray⟩, .bool b_v2, .string ⟨b_l2.toArray⟩, .bool b_v3, .string ⟨b_l3.toArray⟩] 28)) y3
  replace hX := hX.next ((Since.refl w8).alloc (.cells #[.int .i64 k2, .string ⟨b_s.toArray⟩, .string ⟨b_p.toArray⟩, .int .i64 b_n, .bool b_v0, .string ⟨b_l0.toArray⟩, .bool b_v1, .string ⟨b_l1.toArray⟩, .bool b_v2, .string ⟨b_l2.toArray⟩, .bool b_v3, .string ⟨b_l3.toArray⟩] 28))
  replace hY := hY.next ((Since.refl w8).alloc (.cells #[.int .i64 k2, .string ⟨b_s.toArray⟩, .string ⟨b_p.toArray⟩, .int .i64 b_n, .bool b_v0, .string ⟨b_l0.toArray⟩, .bool b_v1, .string ⟨b_l1.toArray⟩, .bool b_v2, .string ⟨b_l2.toArray⟩, .bool b_v3, .string ⟨b_l3.toArray⟩] 28))
  have hD : Cel (w8.alloc (.cells #[.int .i64 k2, .string ⟨b_s.toArray⟩, .string ⟨b_p.toArray⟩, .int .i64 b_n, .bool b_v0, .string ⟨b_l0.toArray⟩, .bool b_v1, .string ⟨b_l1.toArray⟩, .bool b_v2, .string ⟨b_l2.toArray⟩, .bool b_v3, .string ⟨b_l3.toArray⟩] 28)) w8.heap.size #[.int .i64 k2, .string ⟨b_s.toArray⟩, .string ⟨b_p.toArray⟩, .int .i64 b_n, .bool b_v0, .string ⟨b_l0.toArray⟩, .bool b_v1, .string ⟨b_l1.toArray⟩, .bool b_v2, .string ⟨b_l2.toArray⟩, .bool b_v3, .string ⟨b_l3.toArray⟩] 28 := heap_alloc_new w8 _
  obtain ⟨w9, hww9⟩ : ∃ W, Hid (w8.alloc (.cells #[.int .i64 k2, .string ⟨b_s.toArray⟩, .string ⟨b_p.toArray⟩, .int .i64 b_n, .bool b_v0, .string ⟨b_l0.toArray⟩, .bool b_v1, .string ⟨b_l1.toArray⟩, .bool b_v2, .string ⟨b_l2.toArray⟩, .bool b_v3, .string ⟨b_l3.toArray⟩] 28) = W) := ⟨_, rfl⟩
  rw [hww9.out] at HS x0 x1 x2 x3 y0 y1 y2 y3 hX hY hD  ⊢
  clear hww9
  go_wp2_with fail
  refine (HRDR.out _ HS).mono ?_
  rintro e w10 ⟨rfl, hb⟩
  replace HS := HS.trans hb
  replace x0 := hb.cell x0
  replace x1 := hb.cell x1
  replace x2 := hb.cell x2
  replace x3 := hb.cell x3
  replace y0 := hb.cell y0
  replace y1 := hb.cell y1
  replace y2 := hb.cell y2
  replace y3 := hb.cell y3
  replace hX := hX.next hb
  replace hY := hY.next hb
  replace hD := hD.next hb
  clear hb
  go_upto_region 9 with (fail)
  replace HS := HS.alloc (.cells #[.int .i64 k2, .string ⟨b_s.toArray⟩, .string ⟨b_p.toArray⟩, .int .i64 b_n, .bool b_v0, .string ⟨b_l0.toArray⟩, .bool b_v1, .string ⟨b_l1.toArray⟩, .bool b_v2, .string ⟨b_l2.toArray⟩, .bool b_v3, .string ⟨b_l3.toArray⟩] 28)
  replace x0 := Since.cell ((Since.refl w10).alloc (.cells #[.int .i64 k2, .string ⟨b_s.toArray⟩, .string ⟨b_p.toArray⟩, .int .i64 b_n, .bool b_v0, .string ⟨b_l0.toArray⟩, .bool b_v1, .string ⟨b_l1.toArray⟩, .bool b_v2, .string ⟨b_l2.toArray⟩, .bool b_v3, .string ⟨b_l3.toArray⟩] 28)) x0
  replace x1 := Since.cell ((Since.refl w10).alloc (.cells #[.int .i64 k2, .string ⟨b_s.toArray⟩, .string ⟨b_p.toArray⟩, .int .i64 b_n, .bool b_v0, .string ⟨b_l0.toArray⟩, .bool b_v1, .string ⟨b_l1.toArray⟩, .bool b_v2, .string ⟨b_l2.toArray⟩, .bool b_v3, .string ⟨b_l3.toArray⟩] 28)) x1
  replace x2 := Since.cell ((Since.refl w10).alloc (.cells #[.int .i64 k2, .string ⟨b_s.toArray⟩, .string ⟨b_p.toArray⟩, .int .i64 b_n, .bool b_v0, .string ⟨b_l0.toArray⟩, .bool b_v1, .string ⟨b_l1.toArray⟩, .bool b_v2, .string ⟨b_l2.toArray⟩, .bool b_v3, .string ⟨b_l3.toArray⟩] 28)) x2
  replace x3 := Since.cell ((Since.refl w10).alloc (.cells #[.int .i64 k2, .string ⟨b_s.toArray⟩, .string ⟨b_p.toArray⟩, .int .i64 b_n, .bool b_v0, .string ⟨b_l0.toArray⟩, .bool b_v1, .string ⟨b_l1.toArray⟩, .bool b_v2, .string ⟨b_l2.toArray⟩, .bool b_v3, .string ⟨b_l3.toArray⟩] 28)) x3
  replace y0 := Since.cell ((Since.refl w10).alloc (.cells #[.int .i64 k2, .string ⟨b_s.toArray⟩, .string ⟨b_p.toArray⟩, .int .i64 b_n, .bool b_v0, .string ⟨b_l0.toArray⟩, .bool b_v1, .string ⟨b_l1.toArray⟩, .bool b_v2, .string ⟨b_l2.toArray⟩, .bool b_v3, .string ⟨b_l3.toArray⟩] 28)) y0
  replace y1 := Since.cell ((Since.refl w10).alloc (.cells #[.int .i64 k2, .string ⟨b_s.toArray⟩, .string ⟨b_p.toArray⟩, .int .i64 b_n, .bool b_v0, .string ⟨b_l0.toArray⟩, .bool b_v1, .string ⟨b_l1.toArray⟩, .bool b_v2, .string ⟨b_l2.toArray⟩, .bool b_v3, .string ⟨b_l3.toArray⟩] 28)) y1
  replace y2 := Since.cell ((Since.refl w10).alloc (.cells #[.int .i64 k2, .string ⟨b_s.toArray⟩, .string ⟨b_p.toArray⟩, .int .i64 b_n, .bool b_v0, .string ⟨b_l0.toArray⟩, .bool b_v1, .string ⟨b_l1.toArray⟩, .bool b_v2, .string ⟨b_l2.toArray⟩, .bool b_v3, .string ⟨b_l3.toArray⟩] 28)) y2
  replace y3 := Since.cell ((Since.refl w10).alloc (.cells #[.int .i64 k2, .string ⟨b_s.toArray⟩, .string ⟨b_p.toArray⟩, .int .i64 b_n, .bool b_v0, .string ⟨b_l0.toArray⟩, .bool b_v1, .string ⟨b_l1.toArray⟩, .bool b_v2, .string ⟨b_l2.toArray⟩, .bool b_v3, .string ⟨b_l3.toArray⟩] 28)) y3
  replace hX := hX.next ((Since.refl w10).alloc (.cells #[.int .i64 k2, .string ⟨b_s.toArray⟩, .string ⟨b_p.toArray⟩, .int .i64 b_n, .bool b_v0, .string ⟨b_l0.toArray⟩, .bool b_v1, .string ⟨b_l1.toArray⟩, .bool b_v2, .string ⟨b_l2.toArray⟩, .bool b_v3, .string ⟨b_l3.toArray⟩] 28))
  replace hY := hY.next ((Since.refl w10).alloc (.cells #[.int .i64 k2, .string ⟨b_s.toArray⟩, .string ⟨b_p.toArray⟩, .int .i64 b_n, .bool b_v0, .string ⟨b_l0.toArray⟩, .bool b_v1, .string ⟨b_l1.toArray⟩, .bool b_v2, .string ⟨b_l2.toArray⟩, .bool b_v3, .string ⟨b_l3.toArray⟩] 28))
  replace hD := hD.next ((Since.refl w10).alloc (.cells #[.int .i64 k2, .string ⟨b_s.toArray⟩, .string ⟨b_p.toArray⟩, .int .i64 b_n, .bool b_v0, .string ⟨b_l0.toArray⟩, .bool b_v1, .string ⟨b_l1.toArray⟩, .bool b_v2, .string ⟨b_l2.toArray⟩, .bool b_v3, .string ⟨b_l3.toArray⟩] 28))
  have hD2 : Cel (w10.alloc (.cells #[.int .i64 k2, .string ⟨b_s.toArray⟩, .string ⟨b_p.toArray⟩, .int .i64 b_n, .bool b_v0, .string ⟨b_l0.toArray⟩, .bool b_v1, .string ⟨b_l1.toArray⟩, .bool b_v2, .string ⟨b_l2.toArray⟩, .bool b_v3, .string ⟨b_l3.toArray⟩] 28)) w10.heap.size #[.int .i64 k2, .string ⟨b_s.toArray⟩, .string ⟨b_p.toArray⟩, .int .i64 b_n, .bool b_v0, .string ⟨b_l0.toArray⟩, .bool b_v1, .string ⟨b_l1.toArray⟩, .bool b_v2, .string ⟨b_l2.toArray⟩, .bool b_v3, .string ⟨b_l3.toArray⟩] 28 := heap_alloc_new w10 _
  obtain ⟨w11, hww11⟩ : ∃ W, Hid (w10.alloc (.cells #[.int .i64 k2, .string ⟨b_s.toArray⟩, .string ⟨b_p.toArray⟩, .int .i64 b_n, .bool b_v0, .string ⟨b_l0.toArray⟩, .bool b_v1, .string ⟨b_l1.toArray⟩, .bool b_v2, .string ⟨b_l2.toArray⟩, .bool b_v3, .string ⟨b_l3.toArray⟩] 28) = W) := ⟨_, rfl⟩
  rw [hww11.out] at HS x0 x1 x2 x3 y0 y1 y2 y3 hX hY hD hD2  ⊢
  clear hww11
  go_wp2_with fail
  refine (HRS.out _ HS).mono ?_
  rintro e w12 ⟨rfl, hb⟩
  replace HS := HS.trans hb
  replace x0 := hb.cell x0
  replace x1 := hb.cell x1
  replace x2 := hb.cell x2
  replace x3 := hb.cell x3
  replace y0 := hb.cell y0
  replace y1 := hb.cell y1
  replace y2 := hb.cell y2
  replace y3 := hb.cell y3
  replace hX := hX.next hb
  replace hY := hY.next hb
  replace hD := hD.next hb
  replace hD2 := hD2.next hb
  clear hb
  go_wp2_with fail
  refine (HRSR.out _ HS).mono ?_
  rintro e w13 ⟨rfl, hb⟩
  replace HS := HS.trans hb
  replace x0 := hb.cell x0
  replace x1 := hb.cell x1
  replace x2 := hb.cell x2
  replace x3 := hb.cell x3
  replace y0 := hb.cell y0
  replace y1 := hb.cell y1
  replace y2 := hb.cell y2
  replace y3 := hb.cell y3
  replace hX := hX.next hb
  replace hY := hY.next hb
  replace hD := hD.next hb
  replace hD2 := hD2.next hb
  clear hb
  go_wp2_with fail
  refine (HRR.out _ HS).mono ?_
  rintro e w14 ⟨zv, rfl, hzv, hb⟩
  replace HS := HS.trans hb
  replace x0 := hb.cell x0
  replace x1 := hb.cell x1
  replace x2 := hb.cell x2
  replace x3 := hb.cell x3
  replace y0 := hb.cell y0
  replace y1 := hb.cell y1
  replace y2 := hb.cell y2
  replace y3 := hb.cell y3
  replace hX := hX.next hb
  replace hY := hY.next hb
  replace hD := hD.next hb
  replace hD2 := hD2.next hb
  clear hb
  obtain ⟨azv, czv, rfl⟩ := hzv.form
  go_upto_region 12 with (fail)
  replace HS := HS.alloc (.cells #[.int .i64 zc, .bool zh, .slice azv zL.length czv, .string ⟨zt.toArray⟩] 32)
  replace x0 := Since.cell ((Since.refl w14).alloc (.cells #[.int .i64 zc, .bool zh, .slice azv zL.length czv, .string ⟨zt.toArray⟩] 32)) x0
  replace x1 := Since.cell ((Since.refl w14).alloc (.cells #[.int .i64 zc, .bool zh, .slice azv zL.length czv, .string ⟨zt.toArray⟩] 32)) x1
  replace x2 := Since.cell ((Since.refl w14).alloc (.cells #[.int .i64 zc, .bool zh, .slice azv zL.length czv, .string ⟨zt.toArray⟩] 32)) x2
  replace x3 := Since.cell ((Since.refl w14).alloc (.cells #[.int .i64 zc, .bool zh, .slice azv zL.length czv, .string ⟨zt.toArray⟩] 32)) x3
  replace y0 := Since.cell ((Since.refl w14).alloc (.cells #[.int .i64 zc, .bool zh, .slice azv zL.length czv, .string ⟨zt.toArray⟩] 32)) y0
  replace y1 := Since.cell ((Since.refl w14).alloc (.cells #[.int .i64 zc, .bool zh, .slice azv zL.length czv, .string ⟨zt.toArray⟩] 32)) y1
  replace y2 := Since.cell ((Since.refl w14).alloc (.cells #[.int .i64 zc, .bool zh, .slice azv zL.length czv, .string ⟨zt.toArray⟩] 32)) y2
  replace y3 := Since.cell ((Since.refl w14).alloc (.cells #[.int .i64 zc, .bool zh, .slice azv zL.length czv, .string ⟨zt.toArray⟩] 32)) y3
  replace hX := hX.next ((Since.refl w14).alloc (.cells #[.int .i64 zc, .bool zh, .slice azv zL.length czv, .string ⟨zt.toArray⟩] 32))
  replace hY := hY.next ((Since.refl w14).alloc (.cells #[.int .i64 zc, .bool zh, .slice azv zL.length czv, .string ⟨zt.toArray⟩] 32))
  replace hD := hD.next ((Since.refl w14).alloc (.cells #[.int .i64 zc, .bool zh, .slice azv zL.length czv, .string ⟨zt.toArray⟩] 32))
  replace hD2 := hD2.next ((Since.refl w14).alloc (.cells #[.int .i64 zc, .bool zh, .slice azv zL.length czv, .string ⟨zt.toArray⟩] 32))
  replace hzv := hzv.next ((Since.refl w14).alloc (.cells #[.int .i64 zc, .bool zh, .slice azv zL.length czv, .string ⟨zt.toArray⟩] 32))
  have hZ : Cel (w14.alloc (.cells #[.int .i64 zc, .bool zh, .slice azv zL.length czv, .string ⟨zt.toArray⟩] 32)) w14.heap.size #[.int .i64 zc, .bool zh, .slice azv zL.length czv, .string ⟨zt.toArray⟩] 32 := heap_alloc_new w14 _
  obtain ⟨w15, hww15⟩ : ∃ W, Hid (w14.alloc (.cells #[.int .i64 zc, .bool zh, .slice azv zL.length czv, .string ⟨zt.toArray⟩] 32) = W) := ⟨_, rfl⟩
  rw [hww15.out] at HS x0 x1 x2 x3 y0 y1 y2 y3 hX hY hD hD2 hZ hzv ⊢
  clear hww15
  go_wp2_with fail
  refine (HRRR.out _ HS).mono ?_
  rintro e w16 ⟨zu, rfl, hzu, hb⟩
  replace HS := HS.trans hb
  replace x0 := hb.cell x0
  replace x1 := hb.cell x1
  replace x2 := hb.cell x2
  replace x3 := hb.cell x3
  replace y0 := hb.cell y0
  replace y1 := hb.cell y1
  replace y2 := hb.cell y2
  replace y3 := hb.cell y3
  replace hX := hX.next hb
  replace hY := hY.next hb
  replace hD := hD.next hb
  replace hD2 := hD2.next hb
  replace hZ := hZ.next hb
  replace hzv := hzv.next hb
  clear hb
  obtain ⟨azu, czu, rfl⟩ := hzu.form
  go_upto_region 13 with (fail)
  replace HS := HS.alloc (.cells #[.int .i64 zc, .bool zh, .slice azu zL.length czu, .string ⟨zt.toArray⟩] 32)
  replace x0 := Since.cell ((Since.refl w16).alloc (.cells #[.int .i64 zc, .bool zh, .slice azu zL.length czu, .string ⟨zt.toArray⟩] 32)) x0
  replace x1 := Since.cell ((Since.refl w16).alloc (.cells #[.int .i64 zc, .bool zh, .slice azu zL.length czu, .string ⟨zt.toArray⟩] 32)) x1
  replace x2 := Since.cell ((Since.refl w16).alloc (.cells #[.int .i64 zc, .bool zh, .slice azu zL.length czu, .string ⟨zt.toArray⟩] 32)) x2
  replace x3 := Since.cell ((Since.refl w16).alloc (.cells #[.int .i64 zc, .bool zh, .slice azu zL.length czu, .string ⟨zt.toArray⟩] 32)) x3
  replace y0 := Since.cell ((Since.refl w16).alloc (.cells #[.int .i64 zc, .bool zh, .slice azu zL.length czu, .string ⟨zt.toArray⟩] 32)) y0
  replace y1 := Since.cell ((Since.refl w16).alloc (.cells #[.int .i64 zc, .bool zh, .slice azu zL.length czu, .string ⟨zt.toArray⟩] 32)) y1
  replace y2 := Since.cell ((Since.refl w16).alloc (.cells #[.int .i64 zc, .bool zh, .slice azu zL.length czu, .string ⟨zt.toArray⟩] 32)) y2
  replace y3 := Since.cell ((Since.refl w16).alloc (.cells #[.int .i64 zc, .bool zh, .slice azu zL.length czu, .string ⟨zt.toArray⟩] 32)) y3
  replace hX := hX.next ((Since.refl w16).alloc (.cells #[.int .i64 zc, .bool zh, .slice azu zL.length czu, .string ⟨zt.toArray⟩] 32))
  replace hY := hY.next ((Since.refl w16).alloc (.cells #[.int .i64 zc, .bool zh, .slice azu zL.length czu, .string ⟨zt.toArray⟩] 32))
  replace hD := hD.next ((Since.refl w16).alloc (.cells #[.int .i64 zc, .bool zh, .slice azu zL.length czu, .string ⟨zt.toArray⟩] 32))
  replace hD2 := hD2.next ((Since.refl w16).alloc (.cells #[.int .i64 zc, .bool zh, .slice azu zL.length czu, .string ⟨zt.toArray⟩] 32))
  replace hZ := hZ.next ((Since.refl w16).alloc (.cells #[.int .i64 zc, .bool zh, .slice azu zL.length czu, .string ⟨zt.toArray⟩] 32))
  replace hzv := hzv.next ((Since.refl w16).alloc (.cells #[.int .i64 zc, .bool zh, .slice azu zL.length czu, .string ⟨zt.toArray⟩] 32))
  replace hzu := hzu.next ((Since.refl w16).alloc (.cells #[.int .i64 zc, .bool zh, .slice azu zL.length czu, .string ⟨zt.toArray⟩] 32))
  have hZ2 : Cel (w16.alloc (.cells #[.int .i64 zc, .bool zh, .slice azu zL.length czu, .string ⟨zt.toArray⟩] 32)) w16.heap.size #[.int .i64 zc, .bool zh, .slice azu zL.length czu, .string ⟨zt.toArray⟩] 32 := heap_alloc_new w16 _
  obtain ⟨w17, hww17⟩ : ∃ W, Hid (w16.alloc (.cells #[.int .i64 zc, .bool zh, .slice azu zL.length czu, .string ⟨zt.toArray⟩] 32) = W) := ⟨_, rfl⟩
  rw [hww17.out] at HS x0 x1 x2 x3 y0 y1 y2 y3 hX hY hD hD2 hZ hZ2 hzv hzu ⊢
  clear hww17
  have pX := hX.at
  have pY := hY.at
  have pD := hD.at
  have pD2 := hD2.at
  have pZ := hZ.at
  have pZ2 := hZ2.at
  clear hX hY hD hD2 hZ hZ2 HRQ HRQR HRD HRDR HRS HRSR HRR HRRR gt1' gs' x0 x1 x2 x3 y0 y1 y2 y3
  have ha0 : Since w17 w17.drew := (Since.refl _).drew
  refine hx_begin (S := fun W => Since w17 W) (by kernel_rfl) ha0 (by kernel_rfl) (fun _ _ _ _ _ h => h) (fun hns hQ => ?_)
  refine hx_take (i := 0) (oi := _) (v := .string ⟨X1.toArray⟩) rfl rfl hns (by kernel_rfl) (by kernel_rfl) hQ (by kernel_rfl) (fun _ _ => by kernel_rfl) ha0 ?_
  refine hx_take (i := 1) (oi := _) (v := .string ⟨X1.toArray⟩) rfl rfl hns (by kernel_rfl) (by kernel_rfl) hQ (by kernel_rfl) (fun _ _ => by kernel_rfl) ha0 ?_
  refine hx_take (i := 2) (oi := _) (v := .bool true) rfl rfl hns (by kernel_rfl) (by kernel_rfl) hQ (by kernel_rfl) (fun W _ => eqs_txt (s := X1) rfl (by kernel_rfl) (by kernel_rfl) W) ha0 ?_
  refine hx_take (i := 3) (oi := _) (v := .bool true) rfl rfl hns (by kernel_rfl) (by kernel_rfl) hQ (by kernel_rfl) (fun _ _ => by kernel_rfl) ha0 ?_
  refine hx_take (i := 4) (oi := _) (v := .int .i64 E1) rfl rfl hns (by kernel_rfl) (by kernel_rfl) hQ (by kernel_rfl) (fun _ _ => by kernel_rfl) ha0 ?_
  refine hx_take (i := 5) (oi := _) (v := .int .i64 E1) rfl rfl hns (by kernel_rfl) (by kernel_rfl) hQ (by kernel_rfl) (fun _ _ => by kernel_rfl) ha0 ?_
  refine hx_take (i := 6) (oi := _) (v := .bool true) rfl rfl hns (by kernel_rfl) (by kernel_rfl) hQ (by kernel_rfl) (fun W _ => eqs_intE (s := E1) rfl (by kernel_rfl) (by kernel_rfl) W) ha0 ?_
  refine hx_take (i := 7) (oi := _) (v := .bool true) rfl rfl hns (by kernel_rfl) (by kernel_rfl) hQ (by kernel_rfl) (fun _ _ => by kernel_rfl) ha0 ?_
  refine hx_take (i := 8) (oi := _) (v := .bool true) rfl rfl hns (by kernel_rfl) (by kernel_rfl) hQ (by kernel_rfl) (fun _ _ => by kernel_rfl) ha0 ?_
  refine hx_take (i := 9) (oi := _) (v := .agg #[.int .i64 k2, .string ⟨b_s.toArray⟩, .string ⟨b_p.toArray⟩, .int .i64 b_n, .bool b_v0, .string ⟨b_l0.toArray⟩, .bool b_v1, .string ⟨b_l1.toArray⟩, .bool b_v2, .string ⟨b_l2.toArray⟩, .bool b_v3, .string ⟨b_l3.toArray⟩]) rfl rfl hns (by kernel_rfl) (by kernel_rfl) hQ (by kernel_rfl) (fun W hW => ld_at rfl (by kernel_rfl) (by kernel_rfl) (by kernel_rfl) W (pD.next hW)) ha0 ?_
  refine hx_take (i := 10) (oi := _) (v := .agg #[.int .i64 k2, .string ⟨b_s.toArray⟩, .string ⟨b_p.toArray⟩, .int .i64 b_n, .bool b_v0, .string ⟨b_l0.toArray⟩, .bool b_v1, .string ⟨b_l1.toArray⟩, .bool b_v2, .string ⟨b_l2.toArray⟩, .bool b_v3, .string ⟨b_l3.toArray⟩]) rfl rfl hns (by kernel_rfl) (by kernel_rfl) hQ (by kernel_rfl) (fun W hW => ld_at rfl (by kernel_rfl) (by kernel_rfl) (by kernel_rfl) W (pD2.next hW)) ha0 ?_
  refine hx_take (i := 11) (oi := _) (v := .bool true) rfl rfl hns (by kernel_rfl) (by kernel_rfl) hQ (by kernel_rfl) (fun W _ => eqs_req k2 b_s b_p b_n b_v0 b_v1 b_v2 b_v3 b_l0 b_l1 b_l2 b_l3 rfl (by kernel_rfl) (by kernel_rfl) W) ha0 ?_
  refine hx_take (i := 12) (oi := _) (v := .bool true) rfl rfl hns (by kernel_rfl) (by kernel_rfl) hQ (by kernel_rfl) (fun _ _ => by kernel_rfl) ha0 ?_
  refine hx_take (i := 13) (oi := _) (v := .bool true) rfl rfl hns (by kernel_rfl) (by kernel_rfl) hQ (by kernel_rfl) (fun _ _ => by kernel_rfl) ha0 ?_
  refine hx_take (i := 14) (oi := _) (v := .int .i64 E2) rfl rfl hns (by kernel_rfl) (by kernel_rfl) hQ (by kernel_rfl) (fun _ _ => by kernel_rfl) ha0 ?_
  refine hx_take (i := 15) (oi := _) (v := .int .i64 E2) rfl rfl hns (by kernel_rfl) (by kernel_rfl) hQ (by kernel_rfl) (fun _ _ => by kernel_rfl) ha0 ?_
  refine hx_take (i := 16) (oi := _) (v := .bool true) rfl rfl hns (by kernel_rfl) (by kernel_rfl) hQ (by kernel_rfl) (fun W _ => eqs_intE (s := E2) rfl (by kernel_rfl) (by kernel_rfl) W) ha0 ?_
  refine hx_take (i := 17) (oi := _) (v := .bool true) rfl rfl hns (by kernel_rfl) (by kernel_rfl) hQ (by kernel_rfl) (fun _ _ => by kernel_rfl) ha0 ?_
  refine hx_take (i := 18) (oi := _) (v := .bool true) rfl rfl hns (by kernel_rfl) (by kernel_rfl) hQ (by kernel_rfl) (fun _ _ => by kernel_rfl) ha0 ?_
  refine hx_take (i := 19) (oi := _) (v := .string ⟨X3.toArray⟩) rfl rfl hns (by kernel_rfl) (by kernel_rfl) hQ (by kernel_rfl) (fun _ _ => by kernel_rfl) ha0 ?_
  refine hx_take (i := 20) (oi := _) (v := .string ⟨X3.toArray⟩) rfl rfl hns (by kernel_rfl) (by kernel_rfl) hQ (by kernel_rfl) (fun _ _ => by kernel_rfl) ha0 ?_
  refine hx_take (i := 21) (oi := _) (v := .bool true) rfl rfl hns (by kernel_rfl) (by kernel_rfl) hQ (by kernel_rfl) (fun W _ => eqs_txt (s := X3) rfl (by kernel_rfl) (by kernel_rfl) W) ha0 ?_
  refine hx_take (i := 22) (oi := _) (v := .bool true) rfl rfl hns (by kernel_rfl) (by kernel_rfl) hQ (by kernel_rfl) (fun _ _ => by kernel_rfl) ha0 ?_
  refine hx_take (i := 23) (oi := _) (v := .bool true) rfl rfl hns (by kernel_rfl) (by kernel_rfl) hQ (by kernel_rfl) (fun _ _ => by kernel_rfl) ha0 ?_
  refine hx_take (i := 24) (oi := _) (v := .int .i64 E3) rfl rfl hns (by kernel_rfl) (by kernel_rfl) hQ (by kernel_rfl) (fun _ _ => by kernel_rfl) ha0 ?_
  refine hx_take (i := 25) (oi := _) (v := .int .i64 E3) rfl rfl hns (by kernel_rfl) (by kernel_rfl) hQ (by kernel_rfl) (fun _ _ => by kernel_rfl) ha0 ?_
  refine hx_take (i := 26) (oi := _) (v := .bool true) rfl rfl hns (by kernel_rfl) (by kernel_rfl) hQ (by kernel_rfl) (fun W _ => eqs_intE (s := E3) rfl (by kernel_rfl) (by kernel_rfl) W) ha0 ?_
  refine hx_take (i := 27) (oi := _) (v := .bool true) rfl rfl hns (by kernel_rfl) (by kernel_rfl) hQ (by kernel_rfl) (fun _ _ => by kernel_rfl) ha0 ?_
  refine hx_take (i := 28) (oi := _) (v := .bool true) rfl rfl hns (by kernel_rfl) (by kernel_rfl) hQ (by kernel_rfl) (fun _ _ => by kernel_rfl) ha0 ?_
  refine hx_take (i := 29) (oi := _) (v := .agg #[.int .i64 zc, .bool zh, .slice azv zL.length czv, .string ⟨zt.toArray⟩]) rfl rfl hns (by kernel_rfl) (by kernel_rfl) hQ (by kernel_rfl) (fun W hW => ld_at rfl (by kernel_rfl) (by kernel_rfl) (by kernel_rfl) W (pZ.next hW)) ha0 ?_
  refine hx_take (i := 30) (oi := _) (v := .agg #[.int .i64 zc, .bool zh, .slice azu zL.length czu, .string ⟨zt.toArray⟩]) rfl rfl hns (by kernel_rfl) (by kernel_rfl) hQ (by kernel_rfl) (fun W hW => ld_at rfl (by kernel_rfl) (by kernel_rfl) (by kernel_rfl) W (pZ2.next hW)) ha0 ?_
  refine hx_call (i := 31) (oi := _) 15 #[.agg #[.int .i64 zc, .bool zh, .slice azv zL.length czv, .string ⟨zt.toArray⟩], .agg #[.int .i64 zc, .bool zh, .slice azu zL.length czu, .string ⟨zt.toArray⟩]] rfl rfl (by kernel_rfl) (by kernel_rfl) (by kernel_rfl) (HZZ.out _ _ _ (hzv.next ha0) (hzu.next ha0)) ?_
  rintro e wx61 ⟨rfl, hb⟩
  have ha1 : Since w17 wx61 := ha0.trans hb
  clear hb
  refine ⟨_, rfl, ha1, ?_⟩
  refine hx_take (i := 32) (oi := _) (v := .bool true) rfl rfl hns (by kernel_rfl) (by kernel_rfl) hQ (by kernel_rfl) (fun _ _ => by kernel_rfl) ha1 ?_
  refine hx_take (i := 33) (oi := _) (v := .bool true) rfl rfl hns (by kernel_rfl) (by kernel_rfl) hQ (by kernel_rfl) (fun _ _ => by kernel_rfl) ha1 ?_
  refine hx_take (i := 34) (oi := _) (v := .int .i64 E4) rfl rfl hns (by kernel_rfl) (by kernel_rfl) hQ (by kernel_rfl) (fun _ _ => by kernel_rfl) ha1 ?_
  refine hx_take (i := 35) (oi := _) (v := .int .i64 E4) rfl rfl hns (by kernel_rfl) (by kernel_rfl) hQ (by kernel_rfl) (fun _ _ => by kernel_rfl) ha1 ?_
  refine hx_take (i := 36) (oi := _) (v := .bool true) rfl rfl hns (by kernel_rfl) (by kernel_rfl) hQ (by kernel_rfl) (fun W _ => eqs_intE (s := E4) rfl (by kernel_rfl) (by kernel_rfl) W) ha1 ?_
  refine hx_take (i := 37) (oi := _) (v := .bool true) rfl rfl hns (by kernel_rfl) (by kernel_rfl) hQ (by kernel_rfl) (fun _ _ => by kernel_rfl) ha1 ?_
  refine hx_take (i := 38) (oi := _) (v := .bool true) rfl rfl hns (by kernel_rfl) (by kernel_rfl) hQ (by kernel_rfl) (fun _ _ => by kernel_rfl) ha1 ?_
  refine hx_take (i := 39) (oi := _) (v := .agg #[.int .i64 code1, .bool ch1, .slice a1 L1.length c1, .string ⟨t1.toArray⟩]) rfl rfl hns (by kernel_rfl) (by kernel_rfl) hQ (by kernel_rfl) (fun W hW => ld_at rfl (by kernel_rfl) (by kernel_rfl) (by kernel_rfl) W (pX.next hW)) ha1 ?_
  refine hx_take (i := 40) (oi := _) (v := .agg #[.int .i64 code2, .bool ch2, .slice a2 L2.length c2, .string ⟨t2.toArray⟩]) rfl rfl hns (by kernel_rfl) (by kernel_rfl) hQ (by kernel_rfl) (fun W hW => ld_at rfl (by kernel_rfl) (by kernel_rfl) (by kernel_rfl) W (pY.next hW)) ha1 ?_
  refine hx_take (i := 42) (oi := _) (v := .agg #[.int .i64 code1, .bool ch1, .slice a1 L1.length c1, .string ⟨t1.toArray⟩]) rfl rfl hns (by kernel_rfl) (by kernel_rfl) hQ (by kernel_rfl) (fun W hW => ld_at rfl (by kernel_rfl) (by kernel_rfl) (by kernel_rfl) W (pX.next hW)) ha1 ?_
  refine hx_take (i := 43) (oi := _) (v := .agg #[.int .i64 code2, .bool ch2, .slice a2 L2.length c2, .string ⟨t2.toArray⟩]) rfl rfl hns (by kernel_rfl) (by kernel_rfl) hQ (by kernel_rfl) (fun W hW => ld_at rfl (by kernel_rfl) (by kernel_rfl) (by kernel_rfl) W (pY.next hW)) ha1 ?_
  refine hx_call (i := 41) (oi := _) 16 #[.agg #[.int .i64 code1, .bool ch1, .slice a1 L1.length c1, .string ⟨t1.toArray⟩], .agg #[.int .i64 code2, .bool ch2, .slice a2 L2.length c2, .string ⟨t2.toArray⟩]] rfl rfl (by kernel_rfl) (by kernel_rfl) (by kernel_rfl) (HSM.out _ (HS.trans ha1)) ?_
  rintro e wx62 ⟨rfl, hb⟩
  have ha2 : Since w17 wx62 := ha1.trans hb
  clear hb
  refine ⟨_, rfl, ha2, ?_⟩
  refine hx_call (i := 44) (oi := _) 15 #[.agg #[.int .i64 code1, .bool ch1, .slice a1 L1.length c1, .string ⟨t1.toArray⟩], .agg #[.int .i64 code2, .bool ch2, .slice a2 L2.length c2, .string ⟨t2.toArray⟩]] rfl rfl (by kernel_rfl) (by kernel_rfl) (by kernel_rfl) (HSMR.out _ (HS.trans ha2)) ?_
  rintro e wx63 ⟨rfl, hb⟩
  have ha3 : Since w17 wx63 := ha2.trans hb
  clear hb
  refine ⟨_, rfl, ha3, ?_⟩
  refine hx_take (i := 45) (oi := _) (v := .bool true) rfl rfl hns (by kernel_rfl) (by kernel_rfl) hQ (by kernel_rfl) (fun W _ => eqs_bool (s := SXY) rfl (by kernel_rfl) (by kernel_rfl) W) ha3 ?_
  refine hx_take (i := 46) (oi := _) (v := .bool true) rfl rfl hns (by kernel_rfl) (by kernel_rfl) hQ (by kernel_rfl) (fun _ _ => by kernel_rfl) ha3 ?_
  refine hx_take (i := 47) (oi := _) (v := .bool true) rfl rfl hns (by kernel_rfl) (by kernel_rfl) hQ (by kernel_rfl) (fun _ _ => by kernel_rfl) ha3 ?_
  refine hx_take (i := 48) (oi := _) (v := .pointer (some ⟨w.heap.size + 1, 0, none⟩)) rfl rfl hns (by kernel_rfl) (by kernel_rfl) hQ (by kernel_rfl) (fun _ _ => by kernel_rfl) ha3 ?_
  refine hx_take (i := 49) (oi := _) (v := .int .i64 code1) rfl rfl hns (by kernel_rfl) (by kernel_rfl) hQ (by kernel_rfl) (fun W hW => ld_one rfl (by kernel_rfl) (by kernel_rfl) W (pX.next hW 0 _ rfl)) ha3 ?_
  refine hx_take (i := 51) (oi := _) (v := .pointer (some ⟨w.heap.size + 1, 0, none⟩)) rfl rfl hns (by kernel_rfl) (by kernel_rfl) hQ (by kernel_rfl) (fun _ _ => by kernel_rfl) ha3 ?_
  refine hx_take (i := 52) (oi := _) (v := .int .i64 code1) rfl rfl hns (by kernel_rfl) (by kernel_rfl) hQ (by kernel_rfl) (fun W hW => ld_one rfl (by kernel_rfl) (by kernel_rfl) W (pX.next hW 0 _ rfl)) ha3 ?_
  refine hx_call (i := 50) (oi := _) 17 #[.int .i64 code1] rfl rfl (by kernel_rfl) (by kernel_rfl) (by kernel_rfl) (refused_any code1 _) ?_
  rintro e wx64 ⟨rfl, hb⟩
  have ha4 : Since w17 wx64 := ha3.trans hb
  clear hb
  refine ⟨_, rfl, ha4, ?_⟩
  refine hx_call (i := 53) (oi := _) 18 #[.int .i64 code1] rfl rfl (by kernel_rfl) (by kernel_rfl) (by kernel_rfl) (rrefused_any code1 _) ?_
  rintro e wx65 ⟨rfl, hb⟩
  have ha5 : Since w17 wx65 := ha4.trans hb
  clear hb
  refine ⟨_, rfl, ha5, ?_⟩
  refine hx_call (i := 54) (oi := _) 16 #[.agg #[.int .i64 code1, .bool false, .slice none 0 0, .string ⟨#[]⟩], .agg #[.int .i64 code1, .bool false, .slice none 0 0, .string ⟨#[]⟩]] rfl rfl (by kernel_rfl) (by kernel_rfl) (by kernel_rfl) (HSR.out _) ?_
  rintro e wx66 ⟨rfl, hb⟩
  have ha6 : Since w17 wx66 := ha5.trans hb
  clear hb
  refine ⟨_, rfl, ha6, ?_⟩
  refine hx_take (i := 55) (oi := _) (v := .bool true) rfl rfl hns (by kernel_rfl) (by kernel_rfl) hQ (by kernel_rfl) (fun _ _ => by kernel_rfl) ha6 ?_
  refine hx_take (i := 56) (oi := _) (v := .bool true) rfl rfl hns (by kernel_rfl) (by kernel_rfl) hQ (by kernel_rfl) (fun _ _ => by kernel_rfl) ha6 ?_
  refine hx_take (i := 57) (oi := _) (v := .string ⟨X1.toArray⟩) rfl rfl hns (by kernel_rfl) (by kernel_rfl) hQ (by kernel_rfl) (fun _ _ => by kernel_rfl) ha6 ?_
  refine hx_take (i := 58) (oi := _) (v := .string ⟨X3.toArray⟩) rfl rfl hns (by kernel_rfl) (by kernel_rfl) hQ (by kernel_rfl) (fun _ _ => by kernel_rfl) ha6 ?_
  refine hx_take (i := 59) (oi := _) (v := .string ⟨s.toArray⟩) rfl rfl hns (by kernel_rfl) (by kernel_rfl) hQ (by kernel_rfl) (fun _ _ => by kernel_rfl) ha6 ?_
  refine hx_take (i := 62) (oi := _) (v := .string ⟨X1.toArray⟩) rfl rfl hns (by kernel_rfl) (by kernel_rfl) hQ (by kernel_rfl) (fun _ _ => by kernel_rfl) ha6 ?_
  refine hx_take (i := 63) (oi := _) (v := .string ⟨X3.toArray⟩) rfl rfl hns (by kernel_rfl) (by kernel_rfl) hQ (by kernel_rfl) (fun _ _ => by kernel_rfl) ha6 ?_
  refine hx_take (i := 64) (oi := _) (v := .string ⟨(X1 ++ X3).toArray⟩) rfl rfl hns (by kernel_rfl) (by kernel_rfl) hQ (by kernel_rfl) (fun W _ => add_txt X1 X3 rfl (by kernel_rfl) (by kernel_rfl) (by omega) W) ha6 ?_
  refine hx_take (i := 65) (oi := _) (v := .string ⟨s.toArray⟩) rfl rfl hns (by kernel_rfl) (by kernel_rfl) hQ (by kernel_rfl) (fun _ _ => by kernel_rfl) ha6 ?_
  refine hx_take (i := 66) (oi := _) (v := .string ⟨J.toArray⟩) rfl rfl hns (by kernel_rfl) (by kernel_rfl) hQ (by kernel_rfl) (fun W _ => by rw [hJ.out]; exact add_txt (X1 ++ X3) s rfl (by kernel_rfl) (by kernel_rfl) (by rw [List.length_append]; omega) W) ha6 ?_
  have ha7 : Since w17 (wx66.alloc (.cells #[.string ⟨X1.toArray⟩, .string ⟨X3.toArray⟩, .string ⟨s.toArray⟩] 9)) := ha6.alloc _
  refine hx_make (i := 60) (oi := _) (.slice (some ⟨wx66.heap.size, 0, none⟩) 3 3) (wx66.alloc (.cells #[.string ⟨X1.toArray⟩, .string ⟨X3.toArray⟩, .string ⟨s.toArray⟩] 9)) rfl rfl (by kernel_rfl) (by kernel_rfl) (by kernel_rfl) ha7 ?_
  refine hx_call (i := 61) (oi := _) 19 #[.slice (some ⟨wx66.heap.size, 0, none⟩) 3 3] rfl rfl (by kernel_rfl) (by kernel_rfl) (by kernel_rfl) (HJ.out _) ?_
  rintro e wx67 ⟨rfl, hb⟩
  have ha8 : Since w17 wx67 := ha7.trans hb
  clear hb
  refine ⟨_, rfl, ha8, ?_⟩
  refine hx_take (i := 67) (oi := _) (v := .bool true) rfl rfl hns (by kernel_rfl) (by kernel_rfl) hQ (by kernel_rfl) (fun W _ => eqs_txt (s := J) rfl (by kernel_rfl) (by kernel_rfl) W) ha8 ?_
  refine hx_take (i := 68) (oi := _) (v := .bool true) rfl rfl hns (by kernel_rfl) (by kernel_rfl) hQ (by kernel_rfl) (fun _ _ => by kernel_rfl) ha8 ?_
  refine hx_take (i := 69) (oi := _) (v := .bool true) rfl rfl hns (by kernel_rfl) (by kernel_rfl) hQ (by kernel_rfl) (fun _ _ => by kernel_rfl) ha8 ?_
  refine wpAnyH_done (by kernel_rfl) ?_ _
  clear hns hQ
  simp only [List.set_cons_zero, List.set_cons_succ]
  replace HS := HS.trans ha8
  clear pX pY pD pD2 pZ pZ2
  go_wp2_with fail
  go_ret
  exact ⟨rfl, hS.trans HS⟩
end Go.Proofs.YtkdeokgkjmboeaaGreatDoor
