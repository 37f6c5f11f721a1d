/- LexerKinds returns true at every two strings. -/
import Derived.Test.YtfbkddpapjpgbaaLexL
import Derived.Test.YtfbkddpapjpgbaaLexSame
import Derived.Test.YtfbkddpapjpgbaaRef01L
namespace Go.Proofs.Ytfbkddpapjpgbaa
open Go.RowKit
attribute [local go_sem ↓] run_tokEq

theorem eqK_self (a : Tk) : eqK a a = true := eqK_iff.2 rfl
/-- All at a text that is one list of tokens. -/
theorem all_ok {s : List UInt8} {L : List Tk} (hs : s.length ≤ 65536) (h : toksL s = (L, none)) (h0 : 0 < L.length) (W : World) :
    Calls Try.prog 11 #[.string ⟨s.toArray⟩] W fun e w' => ∃ b o c, e = .returned (.tuple #[.slice (some ⟨b, o, none⟩) L.length c, .int .i64 0, .int .i64 0]) ∧ L.length ≤ c ∧ Row w' (.slice (some ⟨b, o, none⟩) L.length c) L.length (L.flatMap tkL) ∧ (∀ (j : Nat) (h : j < (L.flatMap tkL).length), w'.cell? ⟨b, o + j, none⟩ = some (L.flatMap tkL)[j]) ∧ Since W w' := by
  have ha : allL s = (L, 0, 0) := by rw [allL, if_neg (by omega), h]
  have hk := all_any s W (by unfold maxLen; omega)
  unfold AllPost at hk
  rw [ha] at hk
  refine hk.mono fun e w' ⟨v, he, ho, hS⟩ => ?_
  obtain ⟨b, o, c, rfl, hc, hcells⟩ := (own_row ho).some h0
  exact ⟨b, o, c, he, hc, own_row ho, hcells, hS⟩
theorem row_new (w : World) (t : Tk) (ty : TypeId) : Row (w.alloc (.cells #[.int .i64 t.1, .string ⟨t.2.1.toArray⟩, .int .i64 (t.2.2 : Int)] ty)) (.slice (some ⟨w.heap.size, 0, none⟩) 1 1) 1 ([t].flatMap tkL) := by
  refine .inr ⟨w.heap.size, 0, 1, rfl, Nat.le_refl _, fun j hj => ?_⟩
  rw [Nat.zero_add, World.cell?_alloc_new]
  have hj3 : j < 3 := by simpa [tkL] using hj
  match j, hj3 with
  | 0, _ => rfl
  | 1, _ => rfl
  | 2, _ => rfl
theorem mem_drop_step {r : List UInt8} {k : Nat} (hk : k < r.length) (h : (10 : UInt8) ∉ r.take k) (hc : r[k] ≠ 10) : (10 : UInt8) ∉ r.take (k + 1) := by
  rw [List.take_succ_eq_append_getElem hk, List.mem_append]
  rintro (h' | h')
  · exact h h'
  · simp only [List.mem_cons, List.not_mem_nil, or_false] at h'
    exact hc h'.symm

set_option maxHeartbeats 2000000 in
set_option maxRecDepth 100000 in
theorem kinds_any (s r : List UInt8) (w : World) (hs : s.length ≤ maxLen) :
    Calls Try.prog 3 #[.string ⟨s.toArray⟩, .string ⟨r.toArray⟩] w fun e w' => e = .returned (.bool true) ∧ Since w w' := by
  by_cases h1 : 300 < s.length
  · have g1 : decide ((300 : Int) < (s.length : Int)) = true := decide_eq_true (by omega)
    go_enter Try.func3, Try.ntmps3
    go_wp2_with fail
    refine (lives_any _).mono ?_
    rintro e w1 ⟨rfl, hS⟩
    go_wp2_with fail
    go_ret
    exact ⟨rfl, hS⟩
  have g1 : decide ((300 : Int) < (s.length : Int)) = false := decide_eq_false (by omega)
  by_cases h2 : 300 < r.length
  · have g2 : decide ((300 : Int) < (r.length : Int)) = true := decide_eq_true (by omega)
    go_enter Try.func3, Try.ntmps3
    go_wp2_with fail
    refine (lives_any _).mono ?_
    rintro e w1 ⟨rfl, hS⟩
    go_wp2_with fail
    go_ret
    exact ⟨rfl, hS⟩
  have g2 : decide ((300 : Int) < (r.length : Int)) = false := decide_eq_false (by omega)
  have h1' : s.length ≤ 300 := by omega
  have h2' : r.length ≤ 300 := by omega
  go_enter Try.func3, Try.ntmps3
  go_wp2_with fail
  refine (lives_any _).mono ?_
  rintro e w1 ⟨rfl, hS⟩
  go_wp2_with fail
  clear g1 g2 h1 h2
  go_loop [5] (fun i => ∃ k : Nat, k ≤ r.length ∧ i = .int .i64 k ∧ Hid ((10 : UInt8) ∉ r.take k)) (fun i => r.length - (intOf i).toNat)
  case atStart => exact ⟨0, Nat.zero_le _, rfl, by show _ ∉ _; simp⟩
  case round =>
    obtain ⟨k, hk, rfl, hres⟩ := hrel
    by_cases hlt : k < r.length
    · cases hc : ((((ByteArray.mk r.toArray)[k]'hlt).toNat : Int) == 10)
      · have hne : r[k] ≠ 10 := by
          intro h
          rw [at_bytes r k hlt hlt, h] at hc
          exact absurd hc (by decide)
        have hnx := Lib.hid (mem_drop_step hlt hres.out hne)
        go_wp2_with fail
        go_round
        case rel => exact ⟨k + 1, by omega, by go_num, hnx⟩
        case measure => simp [intOf]; omega
      · go_wp2_with fail
        go_ret
        exact ⟨rfl, hS⟩
    · have hnr : Hid ((10 : UInt8) ∉ r) := by
        have := hres.out
        rwa [List.take_of_length_le (by omega)] at this
      clear hres
      cases hv : variableB s
      · have HV : Hid (∀ W, Calls Try.prog 9 #[.string ⟨s.toArray⟩] W fun e w' => e = .returned (.bool false) ∧ W = w') := by
          intro W
          have := rvariable_any s W hs
          rwa [hv] at this
        cases hcn : constantB s
        · have HC : Hid (∀ W, Calls Try.prog 10 #[.string ⟨s.toArray⟩] W fun e w' => e = .returned (.bool false) ∧ Since W w') := by
            intro W
            have := rconstant_any s W hs
            rwa [rconstant_eq, hcn] at this
          clear hv hcn
          go_wp2_with fail
          refine (HV.out _).mono ?_
          rintro e w' ⟨rfl, rfl⟩
          go_wp2_with fail
          refine (HC.out _).mono ?_
          rintro e w2 ⟨rfl, hb⟩
          go_wp2_with fail
          go_ret
          exact ⟨rfl, hS.trans hb⟩
        · have HC : Hid (∀ W, Calls Try.prog 10 #[.string ⟨s.toArray⟩] W fun e w' => e = .returned (.bool true) ∧ Since W w') := by
            intro W
            have := rconstant_any s W hs
            rwa [rconstant_eq, hcn] at this
          have hw : Hid (WordT 1 s) := word_con hcn
          clear hv hcn
          go_wp2_with fail
          refine (HV.out _).mono ?_
          rintro e w' ⟨rfl, rfl⟩
          go_wp2_with fail
          refine (HC.out _).mono ?_
          rintro e w2 ⟨rfl, hb⟩
          replace hS := hS.trans hb
          clear hb HC HV
          obtain ⟨X, hX⟩ : ∃ X, Hid (X = s ++ [37]) := ⟨s ++ [37], rfl⟩
          obtain ⟨Y, hY⟩ : ∃ Y, Hid (Y = X ++ r) := ⟨_, rfl⟩
          obtain ⟨Z, hZ⟩ : ∃ Z, Hid (Z = s ++ [10]) := ⟨s ++ [10], rfl⟩
          obtain ⟨V, hV⟩ : ∃ V, Hid (V = Z ++ [44]) := ⟨Z ++ [44], rfl⟩
          obtain ⟨U, hU⟩ : ∃ U, Hid (U = V ++ s) := ⟨_, rfl⟩
          have c1 : ByteArray.mk s.toArray ++ ByteArray.mk #[37] = ByteArray.mk X.toArray := by rw [hX.out]; exact cat_bytes s [37]
          have c2 : ByteArray.mk X.toArray ++ ByteArray.mk r.toArray = ByteArray.mk Y.toArray := by rw [hY.out]; exact cat_bytes X r
          have c3 : ByteArray.mk s.toArray ++ ByteArray.mk #[10] = ByteArray.mk Z.toArray := by rw [hZ.out]; exact cat_bytes s [10]
          have c4 : ByteArray.mk Z.toArray ++ ByteArray.mk #[44] = ByteArray.mk V.toArray := by rw [hV.out]; exact cat_bytes Z [44]
          have c5 : ByteArray.mk V.toArray ++ ByteArray.mk s.toArray = ByteArray.mk U.toArray := by rw [hU.out]; exact cat_bytes V s
          have hXl : X.length ≤ 301 := by rw [hX.out]; simp; omega
          have hYl : Y.length ≤ 700 := by rw [hY.out]; simp; omega
          have hZl : Z.length ≤ 301 := by rw [hZ.out]; simp; omega
          have hVl : V.length ≤ 302 := by rw [hV.out]; simp; omega
          have hUl : U.length ≤ 700 := by rw [hU.out]; simp; omega
          have eY : Y = s ++ 37 :: r := by rw [hY.out, hX.out]; simp
          have eU : U = s ++ 10 :: 44 :: s := by rw [hU.out, hV.out, hZ.out]; simp
          have A1 := Lib.hid (fun W => all_ok (s := s) (L := [(1, s, 0)]) (by omega) (toksL_word hw.out) (by simp) W)
          have A2 := Lib.hid (fun W => all_ok (s := Y) (L := [(1, s, 0)]) (by omega) (by rw [eY]; exact toksL_remark hw.out hnr.out) (by simp) W)
          have A3 := Lib.hid (fun W => all_ok (s := U) (L := [(1, s, 0), (3, [44], s.length + 1), (1, s, s.length + 2)]) (by omega) (by rw [eU]; exact toksL_three hw.out) (by simp) W)
          have HSM : Hid (∀ W b o n, Row W (.slice (some ⟨b, o, none⟩) 1 n) 1 ([((1, s, 0) : Tk)].flatMap tkL) → ∀ g, Row W (.slice (some ⟨g, 0, none⟩) 1 1) 1 ([((1, s, 0) : Tk)].flatMap tkL) → Calls Try.prog 12 #[.slice (some ⟨b, o, none⟩) 1 n, .slice (some ⟨g, 0, none⟩) 1 1] W fun e w' => e = .returned (.bool true) ∧ Since W w') := by
            intro W b o n h1 g h2
            have := same_tok _ _ [((1, s, 0) : Tk)] [((1, s, 0) : Tk)] W h1 h2 (by simp) (by simp)
            rwa [decide_eq_true rfl] at this
          clear eY eU hX hY hZ hV hU hw hnr
          have hwr : IntKind.i64.wrap ((s.length : Int) + 2) = (s.length : Int) + 2 := IntWalk.i64_in _ (by omega)
          go_wp2_with fail
          refine (A1.out _).mono ?_
          rintro e w3 ⟨b1, o1, n1, rfl, hn1, hr1, _, hb⟩
          have a0 : w3.cell? ⟨w2.heap.size, 0, none⟩ = some (.int .i64 1) := hb.cell (by rw [World.cell?_alloc_new]; rfl)
          have a1 : w3.cell? ⟨w2.heap.size, 1, none⟩ = some (.string ⟨s.toArray⟩) := hb.cell (by rw [World.cell?_alloc_new]; rfl)
          have a2 : w3.cell? ⟨w2.heap.size, 2, none⟩ = some (.int .i64 0) := hb.cell (by rw [World.cell?_alloc_new]; rfl)
          replace hS := (hS.alloc _).trans hb
          clear hb A1
          go_wp2_with fail
          refine (A2.out _).mono ?_
          rintro e w4 ⟨b2, o2, n2, rfl, hn2, hr2, _, hb⟩
          replace a0 := hb.cell a0; replace a1 := hb.cell a1; replace a2 := hb.cell a2
          replace hr1 := hr1.next hb
          replace hS := hS.trans hb
          clear hb A2
          go_wp2_with fail
          refine (A3.out _).mono ?_
          rintro e w5 ⟨b3, o3, n3, rfl, hn3, _, hcells, hb⟩
          replace a0 := hb.cell a0; replace a1 := hb.cell a1; replace a2 := hb.cell a2
          replace hr1 := hr1.next hb
          replace hr2 := hr2.next hb
          replace hS := hS.trans hb
          obtain ⟨d0, d1, d2⟩ := tk_cells hcells (i := 0) (by simp)
          obtain ⟨d3, _, _⟩ := tk_cells hcells (i := 1) (by simp)
          obtain ⟨_, d7, d8⟩ := tk_cells hcells (i := 2) (by simp)
          clear hb A3 hcells
          simp only [List.getElem_cons_succ, List.getElem_cons_zero, Nat.mul_zero, Nat.add_zero, Nat.zero_add, Nat.mul_one, Nat.reduceMul, Nat.reduceAdd] at d0 d1 d2 d3 d7 d8
          have hn1' : 1 ≤ n1 := hn1
          have hn2' : 1 ≤ n2 := hn2
          have hn3' : 3 ≤ n3 := hn3
          have d2' : w5.cell? ⟨b3, o3 + 2, none⟩ = some (.int .i64 0) := d2
          have d8' : w5.cell? ⟨b3, o3 + 8, none⟩ = some (.int .i64 ((s.length : Int) + 2)) := by rw [d8]; simp
          clear hn1 hn2 hn3 d2 d8
          go_wp2_with fail
          go_region_held3 (fun w' => (w'.cell? ⟨w2.heap.size, 0, none⟩ = some (.int .i64 1) ∧ w'.cell? ⟨w2.heap.size, 1, none⟩ = some (.string ⟨s.toArray⟩) ∧ w'.cell? ⟨w2.heap.size, 2, none⟩ = some (.int .i64 0)) ∧ (w'.cell? ⟨b3, o3, none⟩ = some (.int .i64 1) ∧ w'.cell? ⟨b3, o3 + 1, none⟩ = some (.string ⟨s.toArray⟩) ∧ w'.cell? ⟨b3, o3 + 2, none⟩ = some (.int .i64 0) ∧ w'.cell? ⟨b3, o3 + 3, none⟩ = some (.int .i64 3) ∧ w'.cell? ⟨b3, o3 + 7, none⟩ = some (.string ⟨s.toArray⟩) ∧ w'.cell? ⟨b3, o3 + 8, none⟩ = some (.int .i64 ((s.length : Int) + 2))) ∧ Row w' (.slice (some ⟨b1, o1, none⟩) 1 n1) 1 ([(1, s, 0)].flatMap tkL) ∧ Row w' (.slice (some ⟨b2, o2, none⟩) 1 n2) 1 ([(1, s, 0)].flatMap tkL) ∧ Since w w')
            ((go_split_ands; (refine ⟨⟨?_, ?_, ?_⟩, ⟨?_, ?_, ?_, ?_, ?_, ?_⟩, ?_, ?_, ?_⟩) <;> (first | assumption | (refine Since.drew ?_; assumption) | (refine Since.drew (Since.alloc ?_ _); assumption) | (refine Since.cell (Since.drew (Since.alloc (Since.refl _) _)) ?_; assumption) | (refine Row.next ?_ (Since.drew (Since.alloc (Since.refl _) _)); assumption) | (refine Since.alloc ?_ _; assumption) | (refine Since.cell (Since.alloc (Since.refl _) _) ?_; assumption) | (refine Row.next ?_ (Since.alloc (Since.refl _) _); assumption) | (refine Since.cell hb ?_; assumption) | (refine Row.next ?_ hb; assumption) | (refine Since.trans ?_ hb; assumption))))
            (first
              | (go_at_call 12; (with_reducible refine Calls.mono (HSM.out _ _ _ _ ?_ _ ?_) ?_); (go_split_ands; first | assumption | (refine Row.next ?_ (Since.drew (Since.alloc (Since.refl _) _)); assumption) | (refine Row.next ?_ (Since.alloc (Since.refl _) _); assumption)); (first | exact (row_new _ (1, s, 0) _).next (Since.drew (Since.refl _)) | exact row_new _ (1, s, 0) _); rintro e w6 ⟨rfl, hb⟩))
          go_wp2_with fail
          go_ret
          go_split_ands
          exact ⟨rfl, by assumption⟩
      · have HV : Hid (∀ W, Calls Try.prog 9 #[.string ⟨s.toArray⟩] W fun e w' => e = .returned (.bool true) ∧ W = w') := by
          intro W
          have := rvariable_any s W hs
          rwa [hv] at this
        have hw : Hid (WordT 2 s) := word_var hv
        clear hv
        go_wp2_with fail
        refine (HV.out _).mono ?_
        rintro e w2 ⟨rfl, rfl⟩
        clear HV
        obtain ⟨X, hX⟩ : ∃ X, Hid (X = s ++ [37]) := ⟨s ++ [37], rfl⟩
        obtain ⟨Y, hY⟩ : ∃ Y, Hid (Y = X ++ r) := ⟨_, rfl⟩
        obtain ⟨Z, hZ⟩ : ∃ Z, Hid (Z = s ++ [10]) := ⟨s ++ [10], rfl⟩
        obtain ⟨V, hV⟩ : ∃ V, Hid (V = Z ++ [44]) := ⟨Z ++ [44], rfl⟩
        obtain ⟨U, hU⟩ : ∃ U, Hid (U = V ++ s) := ⟨_, rfl⟩
        have c1 : ByteArray.mk s.toArray ++ ByteArray.mk #[37] = ByteArray.mk X.toArray := by rw [hX.out]; exact cat_bytes s [37]
        have c2 : ByteArray.mk X.toArray ++ ByteArray.mk r.toArray = ByteArray.mk Y.toArray := by rw [hY.out]; exact cat_bytes X r
        have c3 : ByteArray.mk s.toArray ++ ByteArray.mk #[10] = ByteArray.mk Z.toArray := by rw [hZ.out]; exact cat_bytes s [10]
        have c4 : ByteArray.mk Z.toArray ++ ByteArray.mk #[44] = ByteArray.mk V.toArray := by rw [hV.out]; exact cat_bytes Z [44]
        have c5 : ByteArray.mk V.toArray ++ ByteArray.mk s.toArray = ByteArray.mk U.toArray := by rw [hU.out]; exact cat_bytes V s
        have hXl : X.length ≤ 301 := by rw [hX.out]; simp; omega
        have hYl : Y.length ≤ 700 := by rw [hY.out]; simp; omega
        have hZl : Z.length ≤ 301 := by rw [hZ.out]; simp; omega
        have hVl : V.length ≤ 302 := by rw [hV.out]; simp; omega
        have hUl : U.length ≤ 700 := by rw [hU.out]; simp; omega
        have eY : Y = s ++ 37 :: r := by rw [hY.out, hX.out]; simp
        have eU : U = s ++ 10 :: 44 :: s := by rw [hU.out, hV.out, hZ.out]; simp
        have A1 := Lib.hid (fun W => all_ok (s := s) (L := [(2, s, 0)]) (by omega) (toksL_word hw.out) (by simp) W)
        have A2 := Lib.hid (fun W => all_ok (s := Y) (L := [(2, s, 0)]) (by omega) (by rw [eY]; exact toksL_remark hw.out hnr.out) (by simp) W)
        have A3 := Lib.hid (fun W => all_ok (s := U) (L := [(2, s, 0), (3, [44], s.length + 1), (2, s, s.length + 2)]) (by omega) (by rw [eU]; exact toksL_three hw.out) (by simp) W)
        have HSM : Hid (∀ W b o n, Row W (.slice (some ⟨b, o, none⟩) 1 n) 1 ([((2, s, 0) : Tk)].flatMap tkL) → ∀ g, Row W (.slice (some ⟨g, 0, none⟩) 1 1) 1 ([((2, s, 0) : Tk)].flatMap tkL) → Calls Try.prog 12 #[.slice (some ⟨b, o, none⟩) 1 n, .slice (some ⟨g, 0, none⟩) 1 1] W fun e w' => e = .returned (.bool true) ∧ Since W w') := by
          intro W b o n h1 g h2
          have := same_tok _ _ [((2, s, 0) : Tk)] [((2, s, 0) : Tk)] W h1 h2 (by simp) (by simp)
          rwa [decide_eq_true rfl] at this
        clear eY eU hX hY hZ hV hU hw hnr
        have hwr : IntKind.i64.wrap ((s.length : Int) + 2) = (s.length : Int) + 2 := IntWalk.i64_in _ (by omega)
        go_wp2_with fail
        refine (A1.out _).mono ?_
        rintro e w3 ⟨b1, o1, n1, rfl, hn1, hr1, _, hb⟩
        have a0 : w3.cell? ⟨w1.heap.size, 0, none⟩ = some (.int .i64 2) := hb.cell (by rw [World.cell?_alloc_new]; rfl)
        have a1 : w3.cell? ⟨w1.heap.size, 1, none⟩ = some (.string ⟨s.toArray⟩) := hb.cell (by rw [World.cell?_alloc_new]; rfl)
        have a2 : w3.cell? ⟨w1.heap.size, 2, none⟩ = some (.int .i64 0) := hb.cell (by rw [World.cell?_alloc_new]; rfl)
        replace hS := (hS.alloc _).trans hb
        clear hb A1
        go_wp2_with fail
        refine (A2.out _).mono ?_
        rintro e w4 ⟨b2, o2, n2, rfl, hn2, hr2, _, hb⟩
        replace a0 := hb.cell a0; replace a1 := hb.cell a1; replace a2 := hb.cell a2
        replace hr1 := hr1.next hb
        replace hS := hS.trans hb
        clear hb A2
        go_wp2_with fail
        refine (A3.out _).mono ?_
        rintro e w5 ⟨b3, o3, n3, rfl, hn3, _, hcells, hb⟩
        replace a0 := hb.cell a0; replace a1 := hb.cell a1; replace a2 := hb.cell a2
        replace hr1 := hr1.next hb
        replace hr2 := hr2.next hb
        replace hS := hS.trans hb
        obtain ⟨d0, d1, d2⟩ := tk_cells hcells (i := 0) (by simp)
        obtain ⟨d3, _, _⟩ := tk_cells hcells (i := 1) (by simp)
        obtain ⟨_, d7, d8⟩ := tk_cells hcells (i := 2) (by simp)
        clear hb A3 hcells
        simp only [List.getElem_cons_succ, List.getElem_cons_zero, Nat.mul_zero, Nat.add_zero, Nat.zero_add, Nat.mul_one, Nat.reduceMul, Nat.reduceAdd] at d0 d1 d2 d3 d7 d8
        have hn1' : 1 ≤ n1 := hn1
        have hn2' : 1 ≤ n2 := hn2
        have hn3' : 3 ≤ n3 := hn3
        have d2' : w5.cell? ⟨b3, o3 + 2, none⟩ = some (.int .i64 0) := d2
        have d8' : w5.cell? ⟨b3, o3 + 8, none⟩ = some (.int .i64 ((s.length : Int) + 2)) := by rw [d8]; simp
        clear hn1 hn2 hn3 d2 d8
        go_wp2_with fail
        go_region_held3 (fun w' => (w'.cell? ⟨w1.heap.size, 0, none⟩ = some (.int .i64 2) ∧ w'.cell? ⟨w1.heap.size, 1, none⟩ = some (.string ⟨s.toArray⟩) ∧ w'.cell? ⟨w1.heap.size, 2, none⟩ = some (.int .i64 0)) ∧ (w'.cell? ⟨b3, o3, none⟩ = some (.int .i64 2) ∧ w'.cell? ⟨b3, o3 + 1, none⟩ = some (.string ⟨s.toArray⟩) ∧ w'.cell? ⟨b3, o3 + 2, none⟩ = some (.int .i64 0) ∧ w'.cell? ⟨b3, o3 + 3, none⟩ = some (.int .i64 3) ∧ w'.cell? ⟨b3, o3 + 7, none⟩ = some (.string ⟨s.toArray⟩) ∧ w'.cell? ⟨b3, o3 + 8, none⟩ = some (.int .i64 ((s.length : Int) + 2))) ∧ Row w' (.slice (some ⟨b1, o1, none⟩) 1 n1) 1 ([(2, s, 0)].flatMap tkL) ∧ Row w' (.slice (some ⟨b2, o2, none⟩) 1 n2) 1 ([(2, s, 0)].flatMap tkL) ∧ Since w w')
          ((go_split_ands; (refine ⟨⟨?_, ?_, ?_⟩, ⟨?_, ?_, ?_, ?_, ?_, ?_⟩, ?_, ?_, ?_⟩) <;> (first | assumption | (refine Since.drew ?_; assumption) | (refine Since.drew (Since.alloc ?_ _); assumption) | (refine Since.cell (Since.drew (Since.alloc (Since.refl _) _)) ?_; assumption) | (refine Row.next ?_ (Since.drew (Since.alloc (Since.refl _) _)); assumption) | (refine Since.alloc ?_ _; assumption) | (refine Since.cell (Since.alloc (Since.refl _) _) ?_; assumption) | (refine Row.next ?_ (Since.alloc (Since.refl _) _); assumption) | (refine Since.cell hb ?_; assumption) | (refine Row.next ?_ hb; assumption) | (refine Since.trans ?_ hb; assumption))))
          (first
            | (go_at_call 12; (with_reducible refine Calls.mono (HSM.out _ _ _ _ ?_ _ ?_) ?_); (go_split_ands; first | assumption | (refine Row.next ?_ (Since.drew (Since.alloc (Since.refl _) _)); assumption) | (refine Row.next ?_ (Since.alloc (Since.refl _) _); assumption)); (first | exact (row_new _ (2, s, 0) _).next (Since.drew (Since.refl _)) | exact row_new _ (2, s, 0) _); rintro e w6 ⟨rfl, hb⟩))
        go_wp2_with fail
        go_ret
        go_split_ands
        exact ⟨rfl, by assumption⟩
end Go.Proofs.Ytfbkddpapjpgbaa
