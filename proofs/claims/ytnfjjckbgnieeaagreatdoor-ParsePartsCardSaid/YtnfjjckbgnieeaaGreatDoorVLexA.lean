/- Package lexer: long, scan, All: a text's tokens. -/
import Derived.Test.YtnfjjckbgnieeaaGreatDoorVLexS
namespace Go.Proofs.YtnfjjckbgnieeaaGreatDoor
open Go.RowKit

theorem long_any (l : List UInt8) (w : World) (_hl : l.length ≤ maxLen) :
    Calls Tryz.prog 81 #[.string ⟨l.toArray⟩] w fun e w' => e = .returned (.bool (decide ((65536 : Int) < (l.length : Int)))) ∧ w = w' := by
  go_enter Tryz.func81, Tryz.ntmps81
  go_wp2_with fail
  go_ret
  exact ⟨rfl, rfl⟩
theorem scan_any (l : List UInt8) (w : World) :
    Calls Tryz.prog 82 #[.string ⟨l.toArray⟩] w fun e w' => e = .returned (.func (.func 98) #[] #[.pointer (some ⟨w.heap.size + 1, 0, none⟩), .pointer (some ⟨w.heap.size, 0, none⟩)]) ∧ (w.alloc (.cells #[.string ⟨l.toArray⟩] 9)).alloc (.cells #[.int .i64 0] 3) = w' := by
  go_enter Tryz.func82, Tryz.ntmps82
  go_wp2_with fail
  go_ret
  exact ⟨rfl, rfl⟩
/-- A token's three cells. -/
def tkL (t : Tk) : List Value := [.int .i64 t.1, .string ⟨t.2.1.toArray⟩, .int .i64 (t.2.2 : Int)]
theorem tkL_len (t : Tk) : (tkL t).length = 3 := rfl
theorem infoTk : (Tryz.prog.info? 63).map (fun i => (i.zero, i.size, i.bytes)) = some (some (.agg #[.int .i64 0, .string ByteArray.empty, .int .i64 0]), 3, 32) := by kernel_rfl
/-- What All comes to. -/
def AllPost (s : List UInt8) (w : World) (e : Ending) (w' : World) : Prop :=
  ∃ v, e = .returned (.tuple #[v, .int .i64 ((allL s).2.1 : Int), .int .i64 (allL s).2.2]) ∧ w'.ownsRow w.heap.size 63 3 v (allL s).1.length ((allL s).1.flatMap tkL) ∧ Since w w'
/-- What is left of a text's tokens from place i on. -/
def LeftL (s : List UInt8) (acc : List Tk) (i : Nat) : Prop := toksL s = (acc ++ (toksF (s.length + 1 - i) (s.drop i) i).1, (toksF (s.length + 1 - i) (s.drop i) i).2)
theorem left_0 (s : List UInt8) : LeftL s [] 0 := by unfold LeftL; simp [toksL]
theorem left_step {s : List UInt8} {acc : List Tk} {i : Nat} (hi : i ≤ s.length) (h : LeftL s acc i) :
    match nextL s i with
    | none => toksL s = (acc, none)
    | some (.error x) => toksL s = (acc, some (i + skipN false (s.drop i), x))
    | some (.ok (q, t)) => LeftL s (acc ++ [(q, t, i + skipN false (s.drop i))]) (i + skipN false (s.drop i) + t.length) ∧ i < i + skipN false (s.drop i) + t.length ∧ i + skipN false (s.drop i) + t.length ≤ s.length := by
  unfold LeftL at h
  have hs := skipN_le false (s.drop i)
  rw [List.length_drop] at hs
  have e1 : s.length + 1 - i = (s.length - i) + 1 := by omega
  rw [e1, toksF] at h
  have hn : nextL s i = tokN ((s.drop i).drop (skipN false (s.drop i))) := by rw [nextL, List.drop_drop]
  rw [hn]
  cases hk : tokN ((s.drop i).drop (skipN false (s.drop i))) with
  | none => rw [hk] at h; simpa using h
  | some x =>
    cases x with
    | error x => rw [hk] at h; simpa using h
    | ok p =>
      obtain ⟨q, t⟩ := p
      rw [hk] at h
      obtain ⟨h1, r', h2⟩ := tokN_len hk
      have hl := congrArg List.length h2
      rw [List.length_drop, List.length_drop, List.length_append] at hl
      refine ⟨?_, by omega, by omega⟩
      unfold LeftL
      have hd : s.drop (i + skipN false (s.drop i) + t.length) = (s.drop i).drop (skipN false (s.drop i) + t.length) := by rw [List.drop_drop]; congr 1; omega
      have hm := toksF_more (s.length + 1 - (i + skipN false (s.drop i) + t.length)) (s.length - i) ((s.drop i).drop (skipN false (s.drop i) + t.length)) (i + skipN false (s.drop i) + t.length) (by rw [List.length_drop, List.length_drop]; omega) (by omega)
      rw [hd, hm, h]
      simp
theorem grown_since {w w' : World} {b : Nat} {B : Nat} (h : w.grownBy w' (some b)) (hb : B ≤ b) (hB : B ≤ w.heap.size) : Below B w w' := ⟨h.os, h.tape, h.output, h.size, fun i hi => h.block i (by omega) (by intro e; injection e with e; omega)⟩
theorem own_grown {w w' : World} {b base : Nat} {e : TypeId} {size : Nat} {v : Value} {n : Nat} {xs : List Value} (h : w.ownsRow base e size v n xs) (hs : w.grownBy w' (some b)) (hb : b < base) : w'.ownsRow base e size v n xs := by
  obtain ⟨hl, h | ⟨g, cap, cur, hv, hgb, hg, r⟩⟩ := h
  · exact ⟨hl, .inl h⟩
  · exact ⟨hl, .inr ⟨g, cap, cur, hv, hgb, (hs.block g ((Array.getElem?_eq_some_iff.1 hg).1) (by intro e; injection e with e; omega)).trans hg, r⟩⟩
theorem tk_new2 (w : World) (o : Obj) (t : Tk) (ty : TypeId) : ∀ j u, (tkL t)[j]? = some u → ((w.alloc o).alloc (.cells #[.int .i64 t.1, .string ⟨t.2.1.toArray⟩, .int .i64 (t.2.2 : Int)] ty)).cell? ((⟨w.heap.size + 1, 0, none⟩ : Addr).add j) = some u := by
  intro j u h
  have h1 : (⟨w.heap.size + 1, 0, none⟩ : Addr).add j = ⟨(w.alloc o).heap.size, j, none⟩ := by
    rw [World.size_alloc]; unfold Addr.add; split <;> simp_all
  rw [h1, World.cell?_alloc_new]
  simpa [tkL] using h
theorem tk_one (t : Tk) : ∀ u ∈ tkL t, u.oneCell' = true := by
  intro u hu
  simp only [tkL, List.mem_cons, List.not_mem_nil, or_false] at hu
  rcases hu with rfl | rfl | rfl <;> rfl
set_option maxHeartbeats 4000000 in
set_option maxRecDepth 100000 in
theorem all_any (s : List UInt8) (w : World) (hs : s.length ≤ maxLen) :
    Calls Tryz.prog 57 #[.string ⟨s.toArray⟩] w (AllPost s w) := by
  obtain ⟨i0, hi, hz0, hz1, hz2⟩ := info_parts infoTk
  have HI0 := Lib.hid (And.intro hi (And.intro hz0 (And.intro hz1 hz2)))
  clear hi hz0 hz1 hz2
  by_cases hlong : 65536 < s.length
  · have g : decide ((65536 : Int) < (s.length : Int)) = true := decide_eq_true (by omega)
    have hP : AllPost s w (.returned (.tuple #[.slice none 0 0, .int .i64 65536, .int .i64 4])) w := by
      refine ⟨.slice none 0 0, ?_, ?_, Since.refl _⟩
      · rw [allL, if_pos hlong]; rfl
      · rw [allL, if_pos hlong]; exact ⟨rfl, .inl ⟨rfl, rfl⟩⟩
    have HP := Lib.hid hP
    clear hP
    go_enter Tryz.func57, Tryz.ntmps57
    go_wp2_with (go_at_call 81; refine (long_any _ _ hs).mono ?_; rintro e w1 ⟨rfl, rfl⟩)
    go_ret3
    exact HP.out
  · have g : decide ((65536 : Int) < (s.length : Int)) = false := decide_eq_false (by omega)
    have hs2 : s.length ≤ 65536 := by omega
    have hP : ∀ (W : World) (v : Value) (acc : List Tk) (a : Nat) (x : Int), toksL s = (acc, none) → W.ownsRow w.heap.size 63 3 v acc.length (acc.flatMap tkL) → Since w W → AllPost s w (.returned (.tuple #[v, .int .i64 0, .int .i64 0])) W := by
      intro W v acc _ _ h ho hS
      refine ⟨v, ?_, ?_, hS⟩
      · rw [allL, if_neg hlong, h]; rfl
      · rw [allL, if_neg hlong, h]; exact ho
    have hP2 : ∀ (W : World) (acc : List Tk) (a : Nat) (x : Int), toksL s = (acc, some (a, x)) → Since w W → AllPost s w (.returned (.tuple #[.slice none 0 0, .int .i64 a, .int .i64 x])) W := by
      intro W acc a x h hS
      refine ⟨.slice none 0 0, ?_, ?_, hS⟩
      · rw [allL, if_neg hlong, h]
      · rw [allL, if_neg hlong, h]; exact ⟨rfl, .inl ⟨rfl, rfl⟩⟩
    have HP := Lib.hid hP
    have HP2 := Lib.hid hP2
    clear hP hP2
    go_enter Tryz.func57, Tryz.ntmps57
    go_wp2_with (first | (go_at_call 81; refine (long_any _ _ hs).mono ?_; rintro e w1 ⟨rfl, rfl⟩) | (go_at_call 82; refine (scan_any _ _).mono ?_; rintro e w1 ⟨rfl, rfl⟩))
    have hO1 : OneIs ((w.alloc (.cells #[.string ⟨s.toArray⟩] 9)).alloc (.cells #[.int .i64 0] 3)) (w.heap.size + 1) 3 (.int .i64 ((0 : Nat) : Int)) := by
      have := heap_alloc_new (w.alloc (.cells #[.string ⟨s.toArray⟩] 9)) (.cells #[.int .i64 0] 3)
      rwa [World.size_alloc] at this
    have hO2 : OneIs ((w.alloc (.cells #[.string ⟨s.toArray⟩] 9)).alloc (.cells #[.int .i64 0] 3)) w.heap.size 9 (.string ⟨s.toArray⟩) := OneIs.alloc (heap_alloc_new w _) _
    have hS1 : Since w ((w.alloc (.cells #[.string ⟨s.toArray⟩] 9)).alloc (.cells #[.int .i64 0] 3)) := ((Since.refl w).alloc _).alloc _
    have hz : ((w.alloc (.cells #[.string ⟨s.toArray⟩] 9)).alloc (.cells #[.int .i64 0] 3)).heap.size = w.heap.size + 2 := by rw [World.size_alloc, World.size_alloc]
    go_loopw [2, 6, 7, 8, 9] (fun v _ _ _ _ wr => ∃ (i : Nat) (acc : List Tk), i ≤ s.length ∧ acc.length ≤ i ∧ OneIs wr (w.heap.size + 1) 3 (.int .i64 (i : Int)) ∧ OneIs wr w.heap.size 9 (.string ⟨s.toArray⟩) ∧ Since w wr ∧ wr.ownsRow (w.heap.size + 2) 63 3 v acc.length (acc.flatMap tkL) ∧ Hid (LeftL s acc i)) (fun _ _ _ _ _ wr => s.length - curI wr (w.heap.size + 1))
    case atStart => exact ⟨0, [], by omega, by simp, hO1, hO2, hS1, ⟨rfl, .inl ⟨rfl, rfl⟩⟩, left_0 s⟩
    case round =>
      clear hO1 hO2 hS1 hz
      obtain ⟨i, acc, hi, hacc, hOi, hOs, hS, hown, hleft⟩ := hrel
      have hst := left_step hi hleft.out
      have HST := Lib.hid hst
      have HOI := Lib.hid hOi
      have HOS := Lib.hid hOs
      have hsz := hS.size
      have q1 := hOi.lt
      clear hst hleft hOi hOs
      go_wp2_with fail
      refine (scan1_any s i (w.heap.size + 1) w.heap.size _ hs2 hi HOI.out HOS.out (by omega)).mono ?_
      rintro e w5 ⟨hgr, hpost⟩
      have hS5 : Since w w5 := Below.trans hS (grown_since hgr (by omega) hsz)
      have hown5 := own_grown hown hgr (by omega)
      have hOs5 := HOS.out.grown hgr (by intro e; injection e with e; omega)
      have HOS5 := Lib.hid hOs5
      clear hgr hOs5 hown hS HOS
      have hst := HST.out
      clear HST
      cases hn : nextL s i with
      | none =>
        rw [hn] at hpost hst
        simp only at hpost hst
        subst hpost
        have HT := Lib.hid hst
        clear hst hn
        go_wp2_with fail
        go_ret3
        exact HP.out _ _ acc 0 0 HT.out (own_down (hown5.alloc _) (by omega)) (hS5.alloc _)
      | some y =>
        cases y with
        | error x =>
          rw [hn] at hpost hst
          simp only at hpost hst
          have hx : (x != 0) = true := by
            have := (toksF_err (s.length + 1) s 0 (i + skipN false (s.drop i)) x (by rw [show toksF (s.length + 1) s 0 = toksL s from rfl, hst])).2
            simpa using this
          subst hpost
          have HT := Lib.hid hst
          clear hst hn
          generalize i + skipN false (s.drop i) = a at *
          go_wp2_with fail
          go_ret3
          exact HP2.out _ acc a x HT.out (hS5.alloc _)
        | ok p =>
          obtain ⟨q, u⟩ := p
          rw [hn] at hpost hst
          simp only at hpost hst
          obtain ⟨rfl, hO5⟩ := hpost
          obtain ⟨hl1, hl2, hl3⟩ := hst
          have HL := Lib.hid hl1
          have HO5 := Lib.hid hO5
          clear hn hl1 hO5
          have hia : i ≤ i + skipN false (s.drop i) := Nat.le_add_right _ _
          generalize i + skipN false (s.drop i) = a at *
          have hacc6 : acc.length ≤ 65536 := by omega
          have hb5 : w.heap.size + 2 ≤ w5.heap.size := by
            have := HO5.out.lt
            omega
          go_wp2_with (at_builtin; refine wpList_append_own _ rfl (.tmp 30) (.tmp 32) 59 rfl (w.heap.size + 2) 63 i0 (.agg #[.int .i64 0, .string ByteArray.empty, .int .i64 0]) 3 32 Tryz.underlying59 HI0.out.1 HI0.out.2.1 HI0.out.2.2.1 HI0.out.2.2.2 rfl (by decide) _ acc.length (acc.flatMap tkL) rfl ((hown5.alloc _).alloc _) ⟨w5.heap.size + 1, 0, none⟩ 1 1 (tkL (q, u, a)) rfl rfl ?c0 ?c1 ?c2 ?c3 ?c4 ?_)
          case c0 => exact tk_new2 w5 _ (q, u, a) _
          case c1 => exact tk_one _
          case c2 => unfold maxLen; omega
          case c3 => omega
          case c4 => simp; omega
          intro v' w6 hown6 hgrow _
          have hB : Since w w6 := Below.grown ((hS5.alloc _).alloc _) hgrow (by simp; omega) (fun k hk => by have := own_ge hown5 k hk; omega)
          have hO6 := ((HO5.out.alloc (.cells #[.int .i64 q, .string ⟨u.toArray⟩, .int .i64 a] 63)).alloc (.cells #[.int .i64 q, .string ⟨u.toArray⟩, .int .i64 a] 63)).grown hgrow (by intro e; have := own_ge hown5 _ e.symm; omega)
          have hOs6 := ((HOS5.out.alloc (.cells #[.int .i64 q, .string ⟨u.toArray⟩, .int .i64 a] 63)).alloc (.cells #[.int .i64 q, .string ⟨u.toArray⟩, .int .i64 a] 63)).grown hgrow (by intro e; have := own_ge hown5 _ e.symm; omega)
          have hown7 : w6.ownsRow (w.heap.size + 2) 63 3 v' (acc ++ [(q, u, a)]).length ((acc ++ [(q, u, a)]).flatMap tkL) := by
            simpa using hown6
          have HO6 := Lib.hid hO6
          have HOS6 := Lib.hid hOs6
          clear hown6 hgrow hown5 hS5 hO6 hOs6
          go_wp2_with fail
          go_roundw
          case rel => exact ⟨a + u.length, acc ++ [(q, u, a)], hl3, by simp; omega, HO6.out, HOS6.out, hB, hown7, HL.out⟩
          case measure => exact meas (k := a + u.length) HOI.out.cur (by omega) (by omega) HO6.out
end Go.Proofs.YtnfjjckbgnieeaaGreatDoor
