/- Package lexer: what scan's function tells: the next token. -/
import Derived.Test.YtnfjjckbgnieeaaGreatDoorVLexK
import Derived.Laws.Rows
import Derived.OwnWalk
import Derived.RegionTactic
import Derived.ChangeAlike
import Derived.Deep.RegionHeld3
namespace Go.Proofs.YtnfjjckbgnieeaaGreatDoor
open Go.RowKit

theorem grown_drewN {a w : World} {row : Option Nat} (h : a.grownBy w row) (n : Nat) : a.grownBy (w.drewN n) row := ⟨h.os, h.tape, h.output, h.size, h.block⟩
theorem grown_drew {a w : World} {row : Option Nat} (h : a.grownBy w row) : a.grownBy w.drew row := ⟨h.os, h.tape, h.output, h.size, h.block⟩
theorem grown_alloc {a w : World} {row : Option Nat} (h : a.grownBy w row) (o : Obj) : a.grownBy (w.alloc o) row :=
  ⟨h.os, h.tape, h.output, Nat.le_trans h.size (by simp), fun i hi hne => (Below.heap_alloc w o i (Nat.lt_of_lt_of_le hi h.size)).trans (h.block i hi hne)⟩
theorem grown_set {a w : World} {g : Nat} (h : a.grownBy w (some g)) {p : Addr} (hp : p.block = g ∨ a.heap.size ≤ p.block) (u : Value) : a.grownBy (w.setCell p u) (some g) :=
  ⟨h.os, h.tape, h.output, by simpa [World.setCell] using h.size, fun i hi hne => (Below.heap_setCell w p u i (by
    rintro rfl
    rcases hp with hp | hp
    · exact hne (by rw [hp])
    · omega)).trans (h.block i hi hne)⟩
/-- A block of one cell. -/
def OneIs (W : World) (b : Nat) (t : TypeId) (v : Value) : Prop := W.heap[b]? = some (.cells #[v] t (0, 0))
theorem OneIs.cell {W : World} {b : Nat} {t : TypeId} {v : Value} (h : OneIs W b t v) : W.cell? ⟨b, 0, none⟩ = some v := by
  unfold OneIs at h; simp [World.cell?, h]
theorem OneIs.free {W : World} {b : Nat} {t : TypeId} {v : Value} (h : OneIs W b t v) : W.frozen? ⟨b, 0, none⟩ = false := by
  unfold OneIs at h; simp [World.frozen?, h]
theorem OneIs.lt {W : World} {b : Nat} {t : TypeId} {v : Value} (h : OneIs W b t v) : b < W.heap.size := (Array.getElem?_eq_some_iff.1 h).1
theorem OneIs.grown {W W' : World} {b : Nat} {t : TypeId} {v : Value} {row : Option Nat} (h : OneIs W b t v) (hg : W.grownBy W' row) (hr : some b ≠ row) : OneIs W' b t v := (hg.block b h.lt hr).trans h
theorem OneIs.alloc {W : World} {b : Nat} {t : TypeId} {v : Value} (h : OneIs W b t v) (o : Obj) : OneIs (W.alloc o) b t v := (Below.heap_alloc W o b h.lt).trans h
theorem OneIs.far {W : World} {b : Nat} {t : TypeId} {v : Value} (h : OneIs W b t v) {p : Addr} (hp : b ≠ p.block) (u : Value) : OneIs (W.setCell p u) b t v := (Below.heap_setCell W p u b hp).trans h
theorem OneIs.set {W : World} {b : Nat} {t : TypeId} {v : Value} (h : OneIs W b t v) (u : Value) : OneIs (W.setCell ⟨b, 0, none⟩ u) b t u := by
  unfold OneIs at *
  simp [World.setCell, Array.getElem?_modify, h]
theorem blk_alloc {W : World} {b : Nat} {o : Obj} (h : W.heap[b]? = some o) (o2 : Obj) : (W.alloc o2).heap[b]? = some o := (Below.heap_alloc W o2 b (Array.getElem?_eq_some_iff.1 h).1).trans h
theorem blk_far {W : World} {b : Nat} {o : Obj} (h : W.heap[b]? = some o) {p : Addr} (hp : b ≠ p.block) (u : Value) : (W.setCell p u).heap[b]? = some o := (Below.heap_setCell W p u b hp).trans h
theorem OneIs.drewN {W : World} {b : Nat} {t : TypeId} {v : Value} (h : OneIs W b t v) (n : Nat) : OneIs (W.drewN n) b t v := h
theorem OneIs.drew {W : World} {b : Nat} {t : TypeId} {v : Value} (h : OneIs W b t v) : OneIs W.drew b t v := h
theorem blk_drewN {W : World} {b : Nat} {o : Obj} (h : W.heap[b]? = some o) (n : Nat) : (W.drewN n).heap[b]? = some o := h
/-- What the counter holds. -/
def curI (W : World) (b : Nat) : Nat := match W.heap[b]? with | some (.cells cs _ _) => (intOf (cs.getD 0 undef)).toNat | _ => 0
theorem OneIs.cur {W : World} {b : Nat} {t : TypeId} {n : Nat} (h : OneIs W b t (.int .i64 n)) : curI W b = n := by
  unfold OneIs at h; simp [curI, h, intOf]
theorem meas {W wr : World} {bi j k n : Nat} {t : TypeId} (h : curI wr bi = j) (hk : j < k) (hn : k ≤ n) (h2 : OneIs W bi t (.int .i64 (k : Nat))) : n - curI W bi < n - curI wr bi := by
  rw [h2.cur, h]; omega
/-- What comes next, from place i on. -/
def nextL (s : List UInt8) (i : Nat) : Option (Except Int (Int × List UInt8)) := tokN (s.drop (i + skipN false (s.drop i)))
def ScanPost (s : List UInt8) (i bi : Nat) (w : World) (e : Ending) (w' : World) : Prop :=
  w.grownBy w' (some bi) ∧ match nextL s i with
    | none => e = .returned (.tuple #[.agg #[.int .i64 0, .string ⟨#[]⟩, .int .i64 0], .bool false, .int .i64 0, .int .i64 0])
    | some (.error x) => e = .returned (.tuple #[.agg #[.int .i64 0, .string ⟨#[]⟩, .int .i64 0], .bool false, .int .i64 ((i + skipN false (s.drop i) : Nat) : Int), .int .i64 x])
    | some (.ok (q, t)) => e = .returned (.tuple #[.agg #[.int .i64 q, .string ⟨t.toArray⟩, .int .i64 ((i + skipN false (s.drop i) : Nat) : Int)], .bool true, .int .i64 0, .int .i64 0]) ∧ OneIs w' bi 3 (.int .i64 ((i + skipN false (s.drop i) + t.length : Nat) : Int))
theorem kind_1 {n : Int} (h : kindI n = 1) : blankB n = true := by
  unfold kindI at h
  split at h; · cases h
  split at h; · cases h
  split at h; · cases h
  split at h; · cases h
  split at h; · cases h
  split at h
  · assumption
  · split at h <;> cases h
theorem kind_2 {n : Int} (h : kindI n = 2) : n = 37 := by
  unfold kindI at h
  split at h; · cases h
  split at h; · cases h
  split at h; · cases h
  split at h; · cases h
  split at h
  · rename_i hx; exact eq_of_beq hx
  · split at h; · cases h
    split at h <;> cases h
theorem kind_7 {n : Int} (h : kindI n = 7) : signB n = true := by
  unfold kindI at h
  split at h; · cases h
  split at h; · cases h
  split at h; · cases h
  split at h; · cases h
  split at h; · cases h
  split at h; · cases h
  split at h
  · assumption
  · cases h
theorem kind_bad {n : Int} (h : kindI n = 0 ∨ kindI n = 6) : blankB n = false ∧ n ≠ 37 ∧ signB n = false ∧ greatB n = false ∧ firstB n = false := by
  unfold kindI at h
  split at h; · rcases h with h | h <;> cases h
  split at h; · rcases h with h | h <;> cases h
  split at h; · rcases h with h | h <;> cases h
  rename_i h1 h2 h3
  have hf : firstB n = false := by unfold firstB; simp only [Bool.not_eq_true] at h1 h3; rw [h1, h3]; rfl
  split at h
  · rename_i h4
    have h4' : n = 95 := by simpa using h4
    subst h4'
    exact ⟨by decide, by decide, by decide, by decide, by decide⟩
  split at h; · rcases h with h | h <;> cases h
  split at h; · rcases h with h | h <;> cases h
  split at h; · rcases h with h | h <;> cases h
  rename_i h4 h5 h6 h7
  simp only [Bool.not_eq_true] at h2 h6 h7
  exact ⟨h6, by simpa using h5, h7, h2, hf⟩
theorem kind_35 {n : Int} (h : kindI n = 3 ∨ kindI n = 5) : firstB n = true := by
  have h1 := kind_more n
  unfold kindI at h
  unfold firstB
  split at h
  · rename_i h1; rw [h1]; rfl
  split at h; · rcases h with h | h <;> cases h
  split at h
  · rename_i h1; rw [h1]; simp
  split at h; · rcases h with h | h <;> cases h
  split at h; · rcases h with h | h <;> cases h
  split at h; · rcases h with h | h <;> cases h
  split at h <;> (rcases h with h | h <;> cases h)
theorem kind_4 {n : Int} (h : kindI n = 4) : greatB n = true := by rw [kind_great, h]; rfl
theorem skip_true : ∀ r : List UInt8, skipN true r = (lineL r).length + skipN false (r.drop (lineL r).length)
  | [] => rfl
  | c :: r => by
    rw [skipN, lineL, List.takeWhile_cons]
    by_cases hc : c = 10
    · subst hc
      have hb : blankB (((10 : UInt8).toNat : Nat) : Int) = true := by decide
      rw [if_pos rfl, if_neg (by simp), List.length_nil, List.drop_zero, skipN, if_pos hb]; omega
    · rw [if_neg hc, if_pos (by simpa using hc), List.length_cons, List.drop_succ_cons, skip_true r]
      simp only [lineL]; omega
theorem run_mid {S : List UInt8} {i j : Nat} (h : i ≤ j) (hj : j ≤ S.length) (W : World) : (Instr.slice 9 (.string ⟨S.toArray⟩) (some (.int .i64 i)) (some (.int .i64 j)) none).run Tryz.prog W = .ok (.string ⟨((S.take j).drop i).toArray⟩) W := by
  have e := ext_bytes S i j
  rw [← e]
  have h' : (i : Int) ≤ (j : Int) := by omega
  have hj' : (j : Int) ≤ (S.length : Int) := by omega
  clear e
  go_simp
theorem take_tw (p : UInt8 → Bool) : ∀ l : List UInt8, l.take (l.takeWhile p).length = l.takeWhile p
  | [] => rfl
  | c :: r => by
    rw [List.takeWhile_cons]
    split
    · rw [List.length_cons, List.take_succ_cons, take_tw p r]
    · rfl
/-- What is at place j decides what comes next. -/
theorem next_at {s : List UInt8} {i j : Nat} (hinv : i + skipN false (s.drop i) = j + skipN false (s.drop j)) (hlt : j < s.length) (h1 : blankB (s[j].toNat : Int) = false) (h2 : (s[j].toNat : Int) ≠ 37) :
    i + skipN false (s.drop i) = j ∧ nextL s i = tokN (s[j] :: s.drop (j + 1)) := by
  have e := List.drop_eq_getElem_cons hlt
  have h0 : skipN false (s.drop j) = 0 := by rw [e]; exact skip_first h1 h2
  have h3 : i + skipN false (s.drop i) = j := by omega
  exact ⟨h3, by rw [nextL, h3, e]⟩
set_option maxHeartbeats 8000000 in
set_option maxRecDepth 100000 in
theorem scan1_any (s : List UInt8) (i bi bs : Nat) (w : World) (hs : s.length ≤ 65536) (hi : i ≤ s.length) (hbi : OneIs w bi 3 (.int .i64 i)) (hbs : OneIs w bs 9 (.string ⟨s.toArray⟩)) (hne : bi ≠ bs) :
    Calls Tryz.prog 98 #[.pointer (some ⟨bi, 0, none⟩), .pointer (some ⟨bs, 0, none⟩)] w (ScanPost s i bi w) := by
  have l1 := hbi.lt
  have l2 := hbs.lt
  go_enter Tryz.func98, Tryz.ntmps98
  go_wp2_with fail
  have hz : (w.alloc (.cells #[.int .i64 0, .string ⟨#[]⟩, .int .i64 0] 63)).heap[w.heap.size]? = some (.cells #[.int .i64 0, .string ⟨#[]⟩, .int .i64 0] 63 (0, 0)) := heap_alloc_new w _
  have hg0 : w.grownBy (w.alloc (.cells #[.int .i64 0, .string ⟨#[]⟩, .int .i64 0] 63)) (some bi) := grown_alloc (World.grownBy.refl w _) _
  go_loopw [6] (fun _ wr => ∃ j : Nat, i ≤ j ∧ j ≤ s.length ∧ Hid (i + skipN false (s.drop i) = j + skipN false (s.drop j)) ∧ w.grownBy wr (some bi) ∧ OneIs wr bi 3 (.int .i64 j) ∧ wr.heap[w.heap.size]? = some (.cells #[.int .i64 0, .string ⟨#[]⟩, .int .i64 0] 63 (0, 0))) (fun _ wr => s.length - curI wr bi)
  case atStart => exact ⟨i, Nat.le_refl _, hi, rfl, hg0, hbi.alloc _, hz⟩
  case round =>
    obtain ⟨j, hj1, hj2, hinv, hg, hOi, hzr⟩ := hrel
    have hOs := hbs.grown hg (by intro e; injection e with e; exact hne e.symm)
    have ci := hOi.cell
    have fi := hOi.free
    have cs := hOs.cell
    have q1 := hOi.lt
    have q2 := hOs.lt
    have q3 : w.heap.size < wr.heap.size := (Array.getElem?_eq_some_iff.1 hzr).1
    have q0 := hg.size
    have hnb : bi ≠ w.heap.size := by omega
    have r0 : wr.cell? ⟨w.heap.size, 0, none⟩ = some (.int .i64 0) := by simp [World.cell?, hzr]
    have r1 : wr.cell? ⟨w.heap.size, 1, none⟩ = some (.string ⟨#[]⟩) := by simp [World.cell?, hzr]
    have r2 : wr.cell? ⟨w.heap.size, 2, none⟩ = some (.int .i64 0) := by simp [World.cell?, hzr]
    have z0 : wr.frozen? ⟨w.heap.size, 0, none⟩ = false := by simp [World.frozen?, hzr]
    have z1 : wr.frozen? ⟨w.heap.size, 1, none⟩ = false := by simp [World.frozen?, hzr]
    have z2 : wr.frozen? ⟨w.heap.size, 2, none⟩ = false := by simp [World.frozen?, hzr]
    have HZR := Lib.hid hzr
    have HI := Lib.hid hOi
    have HS := Lib.hid hOs
    clear hzr hOi hOs
    by_cases hlt : j < s.length
    · have h256 : (((ByteArray.mk s.toArray)[j]'hlt).toNat : Int) < 256 := by have := UInt8.toNat_lt ((ByteArray.mk s.toArray)[j]'hlt); omega
      have HK := Lib.hid (fun W => kind_any (((ByteArray.mk s.toArray)[j]'hlt).toNat : Int) W (by omega) h256)
      go_wp2_with fail
      refine (HK.out _).mono ?_
      rintro e w' ⟨rfl, rfl⟩
      have hkr := kind_range (((ByteArray.mk s.toArray)[j]'hlt).toNat : Int)
      obtain ⟨q, hq⟩ : ∃ q, Hid (q = kindI (((ByteArray.mk s.toArray)[j]'hlt).toNat : Int)) := ⟨_, rfl⟩
      rw [← hq.out] at hkr ⊢
      obtain ⟨qa, qb⟩ := hkr
      rcases (by omega : q = 0 ∨ q = 1 ∨ q = 2 ∨ q = 3 ∨ q = 4 ∨ q = 5 ∨ q = 6 ∨ q = 7) with rfl | rfl | rfl | rfl | rfl | rfl | rfl | rfl
      all_goals clear HK h256 qa qb
      · have hqq : kindI (s[j].toNat : Int) = 0 := hq.out.symm
        obtain ⟨k1, k2, k3, k4, k5⟩ := kind_bad (n := (s[j].toNat : Int)) (.inl hqq)
        obtain ⟨n1, n2⟩ := next_at hinv.out hlt k1 k2
        have n3 : nextL s i = some (.error 3) := by rw [n2, tokN, if_neg (by rw [k3]; simp), if_neg (by rw [k4]; simp), if_neg (by rw [k5]; simp)]
        have N1 := Lib.hid n1
        have N3 := Lib.hid n3
        clear n1 n2 n3 k1 k2 k3 k4 k5 hqq hinv
        go_wp2_with fail
        go_region
        all_goals go_wp2_with fail
        all_goals
          refine bodyPost_ret (v := .tuple #[.agg #[.int .i64 0, .string ⟨#[]⟩, .int .i64 0], .bool false, .int .i64 j, .int .i64 3]) (by simp [results, Tryz.results98, go_sem, r0, r1, r2, q3]) rfl ⟨?_, ?_⟩
          · repeat (first | exact hg | refine grown_set ?_ (.inl rfl) _ | refine grown_set ?_ (.inr (Nat.le_refl _)) _ | refine grown_set ?_ (.inr q0) _ | refine grown_drew ?_ | refine grown_drewN ?_ _ | refine grown_alloc ?_ _)
          · rw [N3.out, N1.out]
      · have hqq : kindI (s[j].toNat : Int) = 1 := hq.out.symm
        have k1 := kind_1 hqq
        have hst : skipN false (s.drop j) = 1 + skipN false (s.drop (j + 1)) := by
          rw [List.drop_eq_getElem_cons hlt, skipN, if_pos k1]
        have hinv2 : Hid (i + skipN false (s.drop i) = (j + 1) + skipN false (s.drop (j + 1))) := by
          show _ = _
          have := hinv.out
          omega
        clear hst k1 hqq hinv
        go_wp2_with fail
        go_roundw
        case rel => exact ⟨j + 1, by omega, by omega, hinv2, (by repeat (first | exact hg | refine grown_set ?_ (.inl rfl) _ | refine grown_set ?_ (.inr (Nat.le_refl _)) _ | refine grown_set ?_ (.inr q0) _ | refine grown_drew ?_ | refine grown_drewN ?_ _ | refine grown_alloc ?_ _)), (HI.out.set _).alloc _, blk_alloc (blk_far HZR.out (by show w.heap.size ≠ bi; omega) _) _⟩
        case measure => exact meas (k := j + 1) HI.out.cur (by omega) (by omega) ((HI.out.set _).alloc _)
      · have hqq : kindI (s[j].toNat : Int) = 2 := hq.out.symm
        have k1 := kind_2 hqq
        have hc : s[j] = 37 := by
          have h3 : s[j].toNat = 37 := by omega
          exact UInt8.toNat_inj.1 h3
        obtain ⟨F, hF⟩ : ∃ F, Hid (F = lineL (s.drop j)) := ⟨_, rfl⟩
        have hFl : F.length ≤ s.length - j := by
          have := tw_le (p := fun x : UInt8 => x != 10) (s.drop j)
          rw [List.length_drop] at this
          rw [hF.out]; exact this
        have hF0 : 0 < F.length := by
          rw [hF.out, lineL, List.drop_eq_getElem_cons hlt, hc]; simp
        have hinv2 : Hid (i + skipN false (s.drop i) = (j + F.length) + skipN false (s.drop (j + F.length))) := by
          show _ = _
          have h1 := hinv.out
          have e : s.drop j = 37 :: s.drop (j + 1) := by rw [List.drop_eq_getElem_cons hlt, hc]
          have hb : blankB (((37 : UInt8).toNat : Nat) : Int) = false := by decide
          have hs1 : skipN false (s.drop j) = 1 + skipN true (s.drop (j + 1)) := by rw [e, skipN, if_neg (by rw [hb]; simp), if_pos rfl]
          have hs2 := skip_true (s.drop (j + 1))
          have hFe : F.length = 1 + (lineL (s.drop (j + 1))).length := by
            rw [hF.out, e, lineL, List.takeWhile_cons, if_pos (by decide), List.length_cons, lineL]; omega
          have hd : s.drop (j + F.length) = (s.drop (j + 1)).drop (lineL (s.drop (j + 1))).length := by
            rw [List.drop_drop, hFe]; congr 1; omega
          rw [hd]
          omega
        have hrest : ∀ W, (Instr.slice 9 (.string ⟨s.toArray⟩) (some (.int .i64 j)) none none).run Tryz.prog W = .ok (.string ⟨(s.drop j).toArray⟩) W := fun W => run_restS (List.take_append_drop j s).symm j (by rw [List.length_take]; omega) W
        have HCUT : Hid (∀ W, Calls Tryz.prog 100 #[.string ⟨(s.drop j).toArray⟩, .string ⟨#[10]⟩] W fun e w' => ∃ (rest : List UInt8) (fnd : Bool) (n : Nat), e = .returned (.tuple #[.string ⟨F.toArray⟩, .string ⟨rest.toArray⟩, .bool fnd]) ∧ w' = W.drewN n) := by
          intro W
          rw [hF.out]
          exact cut_any (s.drop j) W (by rw [List.length_drop]; omega)
        generalize s.drop j = D at *
        clear k1 hc hqq hinv
        go_wp2_with fail
        refine (HCUT.out _).mono ?_
        rintro e w5 ⟨rest, fnd, n5, rfl, rfl⟩
        go_wp2_with fail
        go_roundw
        case rel => exact ⟨j + F.length, by omega, by omega, hinv2, (by repeat (first | exact hg | refine grown_set ?_ (.inl rfl) _ | refine grown_set ?_ (.inr (Nat.le_refl _)) _ | refine grown_set ?_ (.inr q0) _ | refine grown_drew ?_ | refine grown_drewN ?_ _ | refine grown_alloc ?_ _)), ((HI.out.alloc _).drewN _).set _, blk_far (blk_drewN (blk_alloc HZR.out _) _) (by show w.heap.size ≠ bi; omega) _⟩
        case measure => exact meas (k := j + F.length) HI.out.cur (by omega) (by omega) (((HI.out.alloc _).drewN _).set _)
      · have hqq : kindI (s[j].toNat : Int) = 3 := hq.out.symm
        have k5 := kind_35 (n := (s[j].toNat : Int)) (.inl hqq)
        obtain ⟨k3, k1, k4, k2⟩ := first_facts k5
        obtain ⟨n1, n2⟩ := next_at hinv.out hlt k1 k2
        obtain ⟨R, hR⟩ : ∃ R, Hid (R = j + runL (s.drop j) 1) := ⟨_, rfl⟩
        obtain ⟨T, hT⟩ : ∃ T, Hid (T = (s.take R).drop j) := ⟨_, rfl⟩
        have htw : (s.drop j).takeWhile (fun x => moreB false x.toNat) = s[j] :: (s.drop (j + 1)).takeWhile (fun x => moreB false x.toNat) := by
          rw [List.drop_eq_getElem_cons hlt, List.takeWhile_cons, if_pos (by unfold firstB at k5; unfold moreB lowB; rw [k5]; simp)]
        have hrl : runL (s.drop j) 1 = ((s.drop j).takeWhile (fun x => moreB false x.toNat)).length := rfl
        have hT2 : T = s[j] :: (s.drop (j + 1)).takeWhile (fun x => moreB false x.toNat) := by
          rw [hT.out, hR.out, List.drop_take, show j + runL (s.drop j) 1 - j = runL (s.drop j) 1 from by omega, hrl, take_tw, htw]
        have hle := runL_le (s.drop j) 1
        rw [List.length_drop] at hle
        have hR1 : j ≤ R := by rw [hR.out]; omega
        have hR2 : R ≤ s.length := by rw [hR.out]; omega
        have hTl : T.length = R - j := by rw [hT.out, List.length_drop, List.length_take]; omega
        have n3 : nextL s i = some (if T.length ≤ 255 then .ok (1, T) else .error 4) := by rw [n2, tokN_first k3 k4 k5, ← hT2]
        have hsl : ∀ W, (Instr.slice 9 (.string ⟨s.toArray⟩) (some (.int .i64 j)) (some (.int .i64 R)) none).run Tryz.prog W = .ok (.string ⟨T.toArray⟩) W := by
          intro W; rw [run_mid hR1 hR2, hT.out]
        have HRUN : Hid (∀ W, Calls Tryz.prog 101 #[.string ⟨s.toArray⟩, .int .i64 j, .int .i64 1] W fun e w' => e = .returned (.int .i64 R) ∧ W = w') := by
          intro W; rw [hR.out]; exact run_any s j 1 W hj2 hs
        have N1 := Lib.hid n1
        have N3 := Lib.hid n3
        clear n1 n2 n3 k1 k2 k3 k4 k5 hqq hinv htw hrl hT2 hle hT hR
        have HTL := Lib.hid hTl
        have hT6 : T.length ≤ 65536 := by omega
        clear hTl
        by_cases h255 : T.length ≤ 255
        · have g1 : decide ((255 : Int) < (T.length : Int)) = false := decide_eq_false (by omega)
          go_wp2_with fail
          go_region_held3 (fun w' => w'.cell? ⟨bi, 0, none⟩ = some (.int .i64 j) ∧ w'.cell? ⟨bs, 0, none⟩ = some (.string ⟨s.toArray⟩) ∧ w'.cell? ⟨wr.heap.size, 0, none⟩ = some (.int .i64 1)) (go_keep)
            (first | (go_at_call 101; ((with_reducible refine (HRUN.out _).mono ?_); rintro e w' ⟨rfl, rfl⟩)))
          go_wp2_with fail
          refine bodyPost_ret (v := .tuple #[.agg #[.int .i64 1, .string ⟨T.toArray⟩, .int .i64 j], .bool true, .int .i64 0, .int .i64 0]) (by simp [results, Tryz.results98, go_sem, r0, r1, r2, q3]) rfl ⟨?_, ?_⟩
          · repeat (first | exact hg | refine grown_set ?_ (.inl rfl) _ | refine grown_set ?_ (.inr (Nat.le_refl _)) _ | refine grown_set ?_ (.inr q0) _ | refine grown_drew ?_ | refine grown_drewN ?_ _ | refine grown_alloc ?_ _)
          · rw [N3.out, if_pos h255]
            show _ ∧ OneIs _ _ _ _
            rw [N1.out]
            refine ⟨rfl, ?_⟩
            rw [Int.natCast_add]
            repeat (first | with_reducible exact HI.out | with_reducible exact HI.out.set _ | with_reducible refine OneIs.far ?_ hnb _ | with_reducible refine OneIs.alloc ?_ _ | with_reducible refine OneIs.drew ?_ | with_reducible refine OneIs.drewN ?_ _ | with_reducible refine OneIs.set (v := .int .i64 j) ?_ _)
        · have g1 : decide ((255 : Int) < (T.length : Int)) = true := decide_eq_true (by omega)
          go_wp2_with fail
          go_region_held3 (fun w' => w'.cell? ⟨bi, 0, none⟩ = some (.int .i64 j) ∧ w'.cell? ⟨bs, 0, none⟩ = some (.string ⟨s.toArray⟩) ∧ w'.cell? ⟨wr.heap.size, 0, none⟩ = some (.int .i64 1)) (go_keep)
            (first | (go_at_call 101; ((with_reducible refine (HRUN.out _).mono ?_); rintro e w' ⟨rfl, rfl⟩)))
          go_wp2_with fail
          go_region
          all_goals go_wp2_with fail
          all_goals
            refine bodyPost_ret (v := .tuple #[.agg #[.int .i64 0, .string ⟨#[]⟩, .int .i64 0], .bool false, .int .i64 j, .int .i64 4]) (by simp [results, Tryz.results98, go_sem, r0, r1, r2, q3]) rfl ⟨?_, ?_⟩
            · repeat (first | exact hg | refine grown_set ?_ (.inl rfl) _ | refine grown_set ?_ (.inr (Nat.le_refl _)) _ | refine grown_set ?_ (.inr q0) _ | refine grown_drew ?_ | refine grown_drewN ?_ _ | refine grown_alloc ?_ _)
            · rw [N3.out, if_neg h255, N1.out]
      · have hqq : kindI (s[j].toNat : Int) = 4 := hq.out.symm
        have k5 := kind_4 hqq
        obtain ⟨k3, k1, k4, k2⟩ := great_facts k5
        obtain ⟨n1, n2⟩ := next_at hinv.out hlt k1 k2
        obtain ⟨R, hR⟩ : ∃ R, Hid (R = j + runL (s.drop j) 2) := ⟨_, rfl⟩
        obtain ⟨T, hT⟩ : ∃ T, Hid (T = (s.take R).drop j) := ⟨_, rfl⟩
        have htw : (s.drop j).takeWhile (fun x => moreB true x.toNat) = s[j] :: (s.drop (j + 1)).takeWhile (fun x => moreB true x.toNat) := by
          rw [List.drop_eq_getElem_cons hlt, List.takeWhile_cons, if_pos (by unfold moreB; rw [k5]; simp)]
        have hrl : runL (s.drop j) 2 = ((s.drop j).takeWhile (fun x => moreB true x.toNat)).length := rfl
        have hT2 : T = s[j] :: (s.drop (j + 1)).takeWhile (fun x => moreB true x.toNat) := by
          rw [hT.out, hR.out, List.drop_take, show j + runL (s.drop j) 2 - j = runL (s.drop j) 2 from by omega, hrl, take_tw, htw]
        have hle := runL_le (s.drop j) 2
        rw [List.length_drop] at hle
        have hR1 : j ≤ R := by rw [hR.out]; omega
        have hR2 : R ≤ s.length := by rw [hR.out]; omega
        have hTl : T.length = R - j := by rw [hT.out, List.length_drop, List.length_take]; omega
        have n3 : nextL s i = some (if T.length ≤ 255 then .ok (2, T) else .error 4) := by rw [n2, tokN_great k3 k5, ← hT2]
        have hsl : ∀ W, (Instr.slice 9 (.string ⟨s.toArray⟩) (some (.int .i64 j)) (some (.int .i64 R)) none).run Tryz.prog W = .ok (.string ⟨T.toArray⟩) W := by
          intro W; rw [run_mid hR1 hR2, hT.out]
        have HRUN : Hid (∀ W, Calls Tryz.prog 101 #[.string ⟨s.toArray⟩, .int .i64 j, .int .i64 2] W fun e w' => e = .returned (.int .i64 R) ∧ W = w') := by
          intro W; rw [hR.out]; exact run_any s j 2 W hj2 hs
        have N1 := Lib.hid n1
        have N3 := Lib.hid n3
        clear n1 n2 n3 k1 k2 k3 k4 k5 hqq hinv htw hrl hT2 hle hT hR
        have HTL := Lib.hid hTl
        have hT6 : T.length ≤ 65536 := by omega
        clear hTl
        by_cases h255 : T.length ≤ 255
        · have g1 : decide ((255 : Int) < (T.length : Int)) = false := decide_eq_false (by omega)
          go_wp2_with fail
          go_region_held3 (fun w' => w'.cell? ⟨bi, 0, none⟩ = some (.int .i64 j) ∧ w'.cell? ⟨bs, 0, none⟩ = some (.string ⟨s.toArray⟩) ∧ w'.cell? ⟨wr.heap.size, 0, none⟩ = some (.int .i64 2)) (go_keep)
            (first | (go_at_call 101; ((with_reducible refine (HRUN.out _).mono ?_); rintro e w' ⟨rfl, rfl⟩)))
          go_wp2_with fail
          refine bodyPost_ret (v := .tuple #[.agg #[.int .i64 2, .string ⟨T.toArray⟩, .int .i64 j], .bool true, .int .i64 0, .int .i64 0]) (by simp [results, Tryz.results98, go_sem, r0, r1, r2, q3]) rfl ⟨?_, ?_⟩
          · repeat (first | exact hg | refine grown_set ?_ (.inl rfl) _ | refine grown_set ?_ (.inr (Nat.le_refl _)) _ | refine grown_set ?_ (.inr q0) _ | refine grown_drew ?_ | refine grown_drewN ?_ _ | refine grown_alloc ?_ _)
          · rw [N3.out, if_pos h255]
            show _ ∧ OneIs _ _ _ _
            rw [N1.out]
            refine ⟨rfl, ?_⟩
            rw [Int.natCast_add]
            repeat (first | with_reducible exact HI.out | with_reducible exact HI.out.set _ | with_reducible refine OneIs.far ?_ hnb _ | with_reducible refine OneIs.alloc ?_ _ | with_reducible refine OneIs.drew ?_ | with_reducible refine OneIs.drewN ?_ _ | with_reducible refine OneIs.set (v := .int .i64 j) ?_ _)
        · have g1 : decide ((255 : Int) < (T.length : Int)) = true := decide_eq_true (by omega)
          go_wp2_with fail
          go_region_held3 (fun w' => w'.cell? ⟨bi, 0, none⟩ = some (.int .i64 j) ∧ w'.cell? ⟨bs, 0, none⟩ = some (.string ⟨s.toArray⟩) ∧ w'.cell? ⟨wr.heap.size, 0, none⟩ = some (.int .i64 2)) (go_keep)
            (first | (go_at_call 101; ((with_reducible refine (HRUN.out _).mono ?_); rintro e w' ⟨rfl, rfl⟩)))
          go_wp2_with fail
          go_region
          all_goals go_wp2_with fail
          all_goals
            refine bodyPost_ret (v := .tuple #[.agg #[.int .i64 0, .string ⟨#[]⟩, .int .i64 0], .bool false, .int .i64 j, .int .i64 4]) (by simp [results, Tryz.results98, go_sem, r0, r1, r2, q3]) rfl ⟨?_, ?_⟩
            · repeat (first | exact hg | refine grown_set ?_ (.inl rfl) _ | refine grown_set ?_ (.inr (Nat.le_refl _)) _ | refine grown_set ?_ (.inr q0) _ | refine grown_drew ?_ | refine grown_drewN ?_ _ | refine grown_alloc ?_ _)
            · rw [N3.out, if_neg h255, N1.out]
      · have hqq : kindI (s[j].toNat : Int) = 5 := hq.out.symm
        have k5 := kind_35 (n := (s[j].toNat : Int)) (.inr hqq)
        obtain ⟨k3, k1, k4, k2⟩ := first_facts k5
        obtain ⟨n1, n2⟩ := next_at hinv.out hlt k1 k2
        obtain ⟨R, hR⟩ : ∃ R, Hid (R = j + runL (s.drop j) 1) := ⟨_, rfl⟩
        obtain ⟨T, hT⟩ : ∃ T, Hid (T = (s.take R).drop j) := ⟨_, rfl⟩
        have htw : (s.drop j).takeWhile (fun x => moreB false x.toNat) = s[j] :: (s.drop (j + 1)).takeWhile (fun x => moreB false x.toNat) := by
          rw [List.drop_eq_getElem_cons hlt, List.takeWhile_cons, if_pos (by unfold firstB at k5; unfold moreB lowB; rw [k5]; simp)]
        have hrl : runL (s.drop j) 1 = ((s.drop j).takeWhile (fun x => moreB false x.toNat)).length := rfl
        have hT2 : T = s[j] :: (s.drop (j + 1)).takeWhile (fun x => moreB false x.toNat) := by
          rw [hT.out, hR.out, List.drop_take, show j + runL (s.drop j) 1 - j = runL (s.drop j) 1 from by omega, hrl, take_tw, htw]
        have hle := runL_le (s.drop j) 1
        rw [List.length_drop] at hle
        have hR1 : j ≤ R := by rw [hR.out]; omega
        have hR2 : R ≤ s.length := by rw [hR.out]; omega
        have hTl : T.length = R - j := by rw [hT.out, List.length_drop, List.length_take]; omega
        have n3 : nextL s i = some (if T.length ≤ 255 then .ok (1, T) else .error 4) := by rw [n2, tokN_first k3 k4 k5, ← hT2]
        have hsl : ∀ W, (Instr.slice 9 (.string ⟨s.toArray⟩) (some (.int .i64 j)) (some (.int .i64 R)) none).run Tryz.prog W = .ok (.string ⟨T.toArray⟩) W := by
          intro W; rw [run_mid hR1 hR2, hT.out]
        have HRUN : Hid (∀ W, Calls Tryz.prog 101 #[.string ⟨s.toArray⟩, .int .i64 j, .int .i64 1] W fun e w' => e = .returned (.int .i64 R) ∧ W = w') := by
          intro W; rw [hR.out]; exact run_any s j 1 W hj2 hs
        have N1 := Lib.hid n1
        have N3 := Lib.hid n3
        clear n1 n2 n3 k1 k2 k3 k4 k5 hqq hinv htw hrl hT2 hle hT hR
        have HTL := Lib.hid hTl
        have hT6 : T.length ≤ 65536 := by omega
        clear hTl
        by_cases h255 : T.length ≤ 255
        · have g1 : decide ((255 : Int) < (T.length : Int)) = false := decide_eq_false (by omega)
          go_wp2_with fail
          go_region_held3 (fun w' => w'.cell? ⟨bi, 0, none⟩ = some (.int .i64 j) ∧ w'.cell? ⟨bs, 0, none⟩ = some (.string ⟨s.toArray⟩) ∧ w'.cell? ⟨wr.heap.size, 0, none⟩ = some (.int .i64 1)) (go_keep)
            (first | (go_at_call 101; ((with_reducible refine (HRUN.out _).mono ?_); rintro e w' ⟨rfl, rfl⟩)))
          go_wp2_with fail
          refine bodyPost_ret (v := .tuple #[.agg #[.int .i64 1, .string ⟨T.toArray⟩, .int .i64 j], .bool true, .int .i64 0, .int .i64 0]) (by simp [results, Tryz.results98, go_sem, r0, r1, r2, q3]) rfl ⟨?_, ?_⟩
          · repeat (first | exact hg | refine grown_set ?_ (.inl rfl) _ | refine grown_set ?_ (.inr (Nat.le_refl _)) _ | refine grown_set ?_ (.inr q0) _ | refine grown_drew ?_ | refine grown_drewN ?_ _ | refine grown_alloc ?_ _)
          · rw [N3.out, if_pos h255]
            show _ ∧ OneIs _ _ _ _
            rw [N1.out]
            refine ⟨rfl, ?_⟩
            rw [Int.natCast_add]
            repeat (first | with_reducible exact HI.out | with_reducible exact HI.out.set _ | with_reducible refine OneIs.far ?_ hnb _ | with_reducible refine OneIs.alloc ?_ _ | with_reducible refine OneIs.drew ?_ | with_reducible refine OneIs.drewN ?_ _ | with_reducible refine OneIs.set (v := .int .i64 j) ?_ _)
        · have g1 : decide ((255 : Int) < (T.length : Int)) = true := decide_eq_true (by omega)
          go_wp2_with fail
          go_region_held3 (fun w' => w'.cell? ⟨bi, 0, none⟩ = some (.int .i64 j) ∧ w'.cell? ⟨bs, 0, none⟩ = some (.string ⟨s.toArray⟩) ∧ w'.cell? ⟨wr.heap.size, 0, none⟩ = some (.int .i64 1)) (go_keep)
            (first | (go_at_call 101; ((with_reducible refine (HRUN.out _).mono ?_); rintro e w' ⟨rfl, rfl⟩)))
          go_wp2_with fail
          go_region
          all_goals go_wp2_with fail
          all_goals
            refine bodyPost_ret (v := .tuple #[.agg #[.int .i64 0, .string ⟨#[]⟩, .int .i64 0], .bool false, .int .i64 j, .int .i64 4]) (by simp [results, Tryz.results98, go_sem, r0, r1, r2, q3]) rfl ⟨?_, ?_⟩
            · repeat (first | exact hg | refine grown_set ?_ (.inl rfl) _ | refine grown_set ?_ (.inr (Nat.le_refl _)) _ | refine grown_set ?_ (.inr q0) _ | refine grown_drew ?_ | refine grown_drewN ?_ _ | refine grown_alloc ?_ _)
            · rw [N3.out, if_neg h255, N1.out]
      · have hqq : kindI (s[j].toNat : Int) = 6 := hq.out.symm
        obtain ⟨k1, k2, k3, k4, k5⟩ := kind_bad (n := (s[j].toNat : Int)) (.inr hqq)
        obtain ⟨n1, n2⟩ := next_at hinv.out hlt k1 k2
        have n3 : nextL s i = some (.error 3) := by rw [n2, tokN, if_neg (by rw [k3]; simp), if_neg (by rw [k4]; simp), if_neg (by rw [k5]; simp)]
        have N1 := Lib.hid n1
        have N3 := Lib.hid n3
        clear n1 n2 n3 k1 k2 k3 k4 k5 hqq hinv
        go_wp2_with fail
        go_region
        all_goals go_wp2_with fail
        all_goals
          refine bodyPost_ret (v := .tuple #[.agg #[.int .i64 0, .string ⟨#[]⟩, .int .i64 0], .bool false, .int .i64 j, .int .i64 3]) (by simp [results, Tryz.results98, go_sem, r0, r1, r2, q3]) rfl ⟨?_, ?_⟩
          · repeat (first | exact hg | refine grown_set ?_ (.inl rfl) _ | refine grown_set ?_ (.inr (Nat.le_refl _)) _ | refine grown_set ?_ (.inr q0) _ | refine grown_drew ?_ | refine grown_drewN ?_ _ | refine grown_alloc ?_ _)
          · rw [N3.out, N1.out]
      · have hqq : kindI (s[j].toNat : Int) = 7 := hq.out.symm
        have k3 := kind_7 hqq
        obtain ⟨k1, k2⟩ := sign_facts k3
        obtain ⟨n1, n2⟩ := next_at hinv.out hlt k1 k2
        obtain ⟨T, hT⟩ : ∃ T, Hid (T = (s.take (j + 1)).drop j) := ⟨_, rfl⟩
        have hT2 : T = [s[j]] := by
          rw [hT.out, List.drop_take, show j + 1 - j = 1 from by omega, List.drop_eq_getElem_cons hlt]; rfl
        have n3 : nextL s i = some (.ok (3, T)) := by rw [n2, tokN_sign k3, hT2]
        have hsl : ∀ W, (Instr.slice 9 (.string ⟨s.toArray⟩) (some (.int .i64 j)) (some (.int .i64 ((j : Int) + 1))) none).run Tryz.prog W = .ok (.string ⟨T.toArray⟩) W := by
          intro W
          have := run_mid (S := s) (i := j) (j := j + 1) (by omega) (by omega) W
          rw [hT.out]; exact this
        have hw : IntKind.i64.wrap ((j : Int) + 1) = (j : Int) + 1 := IntWalk.i64_in _ (by omega)
        have hT1 : T.length = 1 := by rw [hT2]; rfl
        have HT1 := Lib.hid hT1
        have g1 : decide ((255 : Int) < (T.length : Int)) = false := decide_eq_false (by omega)
        have hT6 : T.length ≤ 1 := by omega
        have N1 := Lib.hid n1
        have N3 := Lib.hid n3
        clear n1 n2 n3 k1 k2 k3 hqq hinv hT2 hT hT1
        go_wp2_with fail
        go_region
        all_goals go_wp2_with fail
        all_goals
          refine bodyPost_ret (v := .tuple #[.agg #[.int .i64 3, .string ⟨T.toArray⟩, .int .i64 j], .bool true, .int .i64 0, .int .i64 0]) (by simp [results, Tryz.results98, go_sem, r0, r1, r2, q3]) rfl ⟨?_, ?_⟩
          · repeat (first | exact hg | refine grown_set ?_ (.inl rfl) _ | refine grown_set ?_ (.inr (Nat.le_refl _)) _ | refine grown_set ?_ (.inr q0) _ | refine grown_drew ?_ | refine grown_drewN ?_ _ | refine grown_alloc ?_ _)
          · rw [N3.out, N1.out]
            refine ⟨rfl, ?_⟩
            rw [Int.natCast_add]
            repeat (first | with_reducible exact HI.out | with_reducible exact HI.out.set _ | with_reducible refine OneIs.far ?_ hnb _ | with_reducible refine OneIs.alloc ?_ _ | with_reducible refine OneIs.drew ?_ | with_reducible refine OneIs.drewN ?_ _ | with_reducible refine OneIs.set (v := .int .i64 j) ?_ _)
    · go_wp2_with fail
      have hnx : nextL s i = none := by
        have h1 : i + skipN false (s.drop i) = j + skipN false (s.drop j) := hinv.out
        rw [nextL, h1, List.drop_eq_nil_of_le (by omega)]; rfl
      refine bodyPost_ret (v := .tuple #[.agg #[.int .i64 0, .string ⟨#[]⟩, .int .i64 0], .bool false, .int .i64 0, .int .i64 0]) (by simp [results, Tryz.results98, go_sem, r0, r1, r2]) rfl ⟨?_, ?_⟩
      · repeat (first | exact hg | refine grown_set ?_ (.inr (Nat.le_refl _)) _)
      · rw [hnx]
end Go.Proofs.YtnfjjckbgnieeaaGreatDoor
