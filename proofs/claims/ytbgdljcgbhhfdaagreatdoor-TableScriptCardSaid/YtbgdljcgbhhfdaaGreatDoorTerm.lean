/- Package term: Term, Check, Ground: what they answer at every term and atom, in every world in which the library's table strings.asciiSpace stands. -/
import Derived.Test.YtbgdljcgbhhfdaaGreatDoorRef03
import Derived.Test.YtbgdljcgbhhfdaaGreatDoorSpell
namespace Go.Proofs.YtbgdljcgbhhfdaaGreatDoor
open Go.RowKit

set_option maxHeartbeats 400000 in
theorem term_any (v : Bool) (l : List UInt8) (w : World) (hl : l.length ≤ maxLen) (hE : Env w) :
    Calls Tryz.prog 48 #[.agg #[.bool v, .string ⟨l.toArray⟩]] w fun e w' => e = .returned (.bool (termB (v, l))) ∧ Since w w' := by
  have hE1 : Env (w.alloc (.cells #[.bool v, .string ⟨l.toArray⟩] 30)) := hE.next ((Since.refl _).alloc _)
  have hS1 : Since w (w.alloc (.cells #[.bool v, .string ⟨l.toArray⟩] 30)) := (Since.refl _).alloc _
  cases v
  · go_enter Tryz.func48, Tryz.ntmps48
    go_wp2_with fail
    refine (constant_any _ _ hl hE1).mono ?_
    rintro e w1 ⟨rfl, hb⟩
    go_wp2_with fail
    go_ret
    exact ⟨rfl, hS1.trans hb⟩
  · go_enter Tryz.func48, Tryz.ntmps48
    go_wp2_with fail
    refine (variable_any _ _ hl).mono ?_
    rintro e w1 ⟨rfl, rfl⟩
    go_wp2_with fail
    go_ret
    exact ⟨rfl, hS1⟩

set_option maxHeartbeats 400000 in
theorem check1_any (v : Bool) (l : List UInt8) (w : World) (hl : l.length ≤ maxLen) (hE : Env w) :
    Calls Tryz.prog 47 #[.agg #[.bool v, .string ⟨l.toArray⟩]] w fun e w' => e = .returned (.bool (!termB (v, l))) ∧ Since w w' := by
  have hE1 : Env (w.alloc (.cells #[.bool v, .string ⟨l.toArray⟩] 30)) := hE.next ((Since.refl _).alloc _)
  have hS1 : Since w (w.alloc (.cells #[.bool v, .string ⟨l.toArray⟩] 30)) := (Since.refl _).alloc _
  go_enter Tryz.func47, Tryz.ntmps47
  go_wp2_with fail
  refine (term_any _ _ _ hl hE1).mono ?_
  rintro e w1 ⟨rfl, hb⟩
  go_wp2_with fail
  go_ret
  exact ⟨rfl, hS1.trans hb⟩

set_option maxHeartbeats 400000 in
theorem ground1_any (v : Bool) (l : List UInt8) (w : World) (_hl : l.length ≤ maxLen) (_hE : Env w) :
    Calls Tryz.prog 93 #[.agg #[.bool v, .string ⟨l.toArray⟩]] w fun e w' => e = .returned (.bool v) ∧ Since w w' := by
  go_enter Tryz.func93, Tryz.ntmps93
  go_wp2_with fail
  go_ret
  exact ⟨rfl, (Since.refl _).alloc _⟩

/-- A slice value that reads as terms. -/
def TmRow (W : World) (v : Value) (L : List Tm) : Prop :=
  (v = .slice none 0 0 ∧ L = []) ∨ ∃ b o c, v = .slice (some ⟨b, o, none⟩) L.length c ∧ L.length ≤ c ∧ ∀ k, (h : k < L.length) → W.cell? ⟨b, o + k * 2, none⟩ = some (.bool L[k].1) ∧ W.cell? ⟨b, o + k * 2 + 1, none⟩ = some (.string ⟨L[k].2.toArray⟩)
theorem TmRow.next {W W' : World} {v : Value} {L : List Tm} (h : TmRow W v L) (hs : Since W W') : TmRow W' v L := by
  rcases h with h | ⟨b, o, c, h1, h2, h3⟩
  · exact .inl h
  · exact .inr ⟨b, o, c, h1, h2, fun k hk => ⟨hs.cell (h3 k hk).1, hs.cell (h3 k hk).2⟩⟩
theorem TmRow.form {W : World} {v : Value} {L : List Tm} (h : TmRow W v L) : ∃ a c, v = .slice a L.length c := by
  rcases h with ⟨h, rfl⟩ | ⟨b, o, c, h1, _, _⟩
  · exact ⟨_, _, h⟩
  · exact ⟨_, _, h1⟩
theorem TmRow.some {W : World} {v : Value} {L : List Tm} (h : TmRow W v L) (hn : 0 < L.length) : ∃ b o c, v = .slice (some ⟨b, o, none⟩) L.length c ∧ L.length ≤ c ∧ ∀ k, (h : k < L.length) → W.cell? ⟨b, o + k * 2, none⟩ = some (.bool L[k].1) ∧ W.cell? ⟨b, o + k * 2 + 1, none⟩ = some (.string ⟨L[k].2.toArray⟩) := by
  rcases h with ⟨_, h⟩ | h
  · rw [h] at hn; simp at hn
  · exact h

theorem alen : Tryz.prog.arrayLen 31 = 4 := by kernel_rfl
theorem aelem : Tryz.prog.elem 31 = 30 := by kernel_rfl
theorem tsize (W : World) : (sizeOf 30).run Tryz.prog W = .ok 2 W := by kernel_rfl
/-- 'a.Args[:n]'. -/
theorem sl_h (n : Int) (h0 : 0 ≤ n) (h4 : n ≤ 4) (b o : Nat) (W : World) :
    (Instr.sliceAt 31 (.pointer (some ⟨b, o, none⟩)) none (some (.int .i64 n)) none).run Tryz.prog W = .ok (.slice (some ⟨b, o, none⟩) n.toNat 4) W := by
  rw [run_sliceAt_array_h W 31 ⟨b, o, none⟩ (by rw [alen, aelem]; exact Tryz.underlying31) .i64 n h0 (by rw [alen]; exact h4), aelem, tsize, alen]
  show Result.ok (slicedAt _ _ _ _ _) W = _
  rw [slicedAt, if_neg (by omega)]
  rfl
/-- 'a.Args[n:]'. -/
theorem sl_l (n : Nat) (h4 : n ≤ 4) (b o : Nat) (W : World) :
    (Instr.sliceAt 31 (.pointer (some ⟨b, o, none⟩)) (some (.int .i64 n)) none none).run Tryz.prog W = .ok (.slice (some ⟨b, if 4 = n then o else o + n * 2, none⟩) (4 - n) (4 - n)) W := by
  rw [run_sliceAt_array_l W 31 ⟨b, o, none⟩ (by rw [alen, aelem]; exact Tryz.underlying31) .i64 n (by omega) (by rw [alen]; omega), aelem, tsize, alen]
  show Result.ok (slicedAt _ _ _ _ _) W = _
  rw [slicedAt, Int.toNat_natCast]
  by_cases h : 4 = n
  · rw [if_pos h, if_pos h]
  · rw [if_neg h, if_neg h]
    congr 2
    unfold Addr.add
    split
    · rename_i h0; rw [h0]; rfl
    · rfl

set_option maxHeartbeats 400000 in
set_option maxRecDepth 100000 in
theorem targs_any (a_s a_p : List UInt8) (a_n : Int) (a_v0 a_v1 a_v2 a_v3 : Bool) (a_l0 a_l1 a_l2 a_l3 : List UInt8) (w : World) :
    Calls Tryz.prog 46 #[.agg #[.string ⟨a_s.toArray⟩, .string ⟨a_p.toArray⟩, .int .i64 a_n, .bool a_v0, .string ⟨a_l0.toArray⟩, .bool a_v1, .string ⟨a_l1.toArray⟩, .bool a_v2, .string ⟨a_l2.toArray⟩, .bool a_v3, .string ⟨a_l3.toArray⟩]] w fun e w' => e = .returned (.slice (some ⟨w.heap.size, 3, none⟩) (countA ((a_s, a_p, a_n, (a_v0, a_l0), (a_v1, a_l1), (a_v2, a_l2), (a_v3, a_l3)) : Atm)) 4) ∧ TmRow w' (.slice (some ⟨w.heap.size, 3, none⟩) (countA ((a_s, a_p, a_n, (a_v0, a_l0), (a_v1, a_l1), (a_v2, a_l2), (a_v3, a_l3)) : Atm)) 4) ((argsL ((a_s, a_p, a_n, (a_v0, a_l0), (a_v1, a_l1), (a_v2, a_l2), (a_v3, a_l3)) : Atm)).take (countA ((a_s, a_p, a_n, (a_v0, a_l0), (a_v1, a_l1), (a_v2, a_l2), (a_v3, a_l3)) : Atm))) ∧ Since w w' := by
  have HW : Box (w.alloc (.cells #[.string ⟨a_s.toArray⟩, .string ⟨a_p.toArray⟩, .int .i64 a_n, .bool a_v0, .string ⟨a_l0.toArray⟩, .bool a_v1, .string ⟨a_l1.toArray⟩, .bool a_v2, .string ⟨a_l2.toArray⟩, .bool a_v3, .string ⟨a_l3.toArray⟩] 33)) w.heap.size ((a_s, a_p, a_n, (a_v0, a_l0), (a_v1, a_l1), (a_v2, a_l2), (a_v3, a_l3)) : Atm) := box_new w ((a_s, a_p, a_n, (a_v0, a_l0), (a_v1, a_l1), (a_v2, a_l2), (a_v3, a_l3)) : Atm) _
  have e : ((countA ((a_s, a_p, a_n, (a_v0, a_l0), (a_v1, a_l1), (a_v2, a_l2), (a_v3, a_l3)) : Atm) : Nat) : Int) = min (max a_n 0) 4 := by
    show (((min (max a_n 0) 4).toNat : Nat) : Int) = _
    omega
  have h4 := countA_le ((a_s, a_p, a_n, (a_v0, a_l0), (a_v1, a_l1), (a_v2, a_l2), (a_v3, a_l3)) : Atm)
  have hrow : ∀ n, n = countA ((a_s, a_p, a_n, (a_v0, a_l0), (a_v1, a_l1), (a_v2, a_l2), (a_v3, a_l3)) : Atm) → TmRow (w.alloc (.cells #[.string ⟨a_s.toArray⟩, .string ⟨a_p.toArray⟩, .int .i64 a_n, .bool a_v0, .string ⟨a_l0.toArray⟩, .bool a_v1, .string ⟨a_l1.toArray⟩, .bool a_v2, .string ⟨a_l2.toArray⟩, .bool a_v3, .string ⟨a_l3.toArray⟩] 33)) (.slice (some ⟨w.heap.size, 3, none⟩) n 4) ((argsL ((a_s, a_p, a_n, (a_v0, a_l0), (a_v1, a_l1), (a_v2, a_l2), (a_v3, a_l3)) : Atm)).take n) := by
    rintro n rfl
    refine .inr ⟨w.heap.size, 3, 4, ?_, ?_, fun k hk => ?_⟩
    · rw [List.length_take, argsL_len, Nat.min_eq_left h4]
    · rw [List.length_take, argsL_len]; omega
    · have hk4 : k < 4 := by rw [List.length_take, argsL_len] at hk; omega
      have := HW.args.2 k hk4
      rw [List.getElem_take]
      exact this
  have HR := Lib.hid hrow
  clear hrow
  obtain ⟨n, hn⟩ : ∃ n, Hid (n = countA ((a_s, a_p, a_n, (a_v0, a_l0), (a_v1, a_l1), (a_v2, a_l2), (a_v3, a_l3)) : Atm)) := ⟨_, rfl⟩
  rw [← hn.out] at e h4 ⊢
  have hT := HR.out n hn.out
  have hS : Since w (w.alloc (.cells #[.string ⟨a_s.toArray⟩, .string ⟨a_p.toArray⟩, .int .i64 a_n, .bool a_v0, .string ⟨a_l0.toArray⟩, .bool a_v1, .string ⟨a_l1.toArray⟩, .bool a_v2, .string ⟨a_l2.toArray⟩, .bool a_v3, .string ⟨a_l3.toArray⟩] 33)) := (Since.refl _).alloc _
  have hsl : ∀ b o W, (Instr.sliceAt 31 (.pointer (some ⟨b, o, none⟩)) none (some (.int .i64 (min (max a_n 0) 4))) none).run Tryz.prog W = .ok (.slice (some ⟨b, o, none⟩) n 4) W := by
    intro b o W
    rw [sl_h _ (by omega) (by omega), hn.out]; rfl
  clear HW hn HR e
  go_enter Tryz.func46, Tryz.ntmps46
  go_wp2
  go_ret
  exact ⟨rfl, hT, hS⟩

/-- The place of the first term that meets f, from k on; -1: there is none. -/
def idxT (f : Tm → Bool) : List Tm → Nat → Int
  | [], _ => -1
  | t :: r, k => if f t then k else idxT f r (k + 1)
theorem idxT_any (f : Tm → Bool) : ∀ (L : List Tm) (k : Nat), decide (0 ≤ idxT f L k) = L.any f
  | [], _ => rfl
  | t :: r, k => by
    rw [idxT, List.any_cons]
    cases h : f t
    · rw [if_neg (by simp), Bool.false_or]; exact idxT_any f r (k + 1)
    · rw [if_pos rfl, Bool.true_or]; exact decide_eq_true (by omega)

set_option maxHeartbeats 400000 in
theorem idx_bad (v : Value) (L : List Tm) (w : World) (hE : Env w) (hv : TmRow w v L) (hl : ∀ t ∈ L, t.2.length ≤ maxLen) (hm : L.length ≤ 4) :
    Calls Tryz.prog 63 #[v, .func (.func 47) #[] #[]] w fun e w' => e = .returned (.int .i64 (idxT (fun t => !termB t) L 0)) ∧ Since w w' := by
  obtain ⟨R, hR⟩ : ∃ R, Hid (R = idxT (fun t => !termB t) L 0) := ⟨idxT (fun t => !termB t) L 0, rfl⟩
  have hres0 : Hid (R = idxT (fun t => !termB t) (L.drop 0) 0) := hR
  rw [← hR.out]
  by_cases h0 : 0 < L.length
  · obtain ⟨b, o, c, rfl, hc, hcell⟩ := hv.some h0
    have HC := Lib.hid hcell
    have HL := Lib.hid hl
    clear hv hcell hl
    go_enter Tryz.func63, Tryz.ntmps63
    go_wp2
    go_loopw [5, 8] (fun i h wr => ∃ k : Nat, k ≤ L.length ∧ h = .int .i64 k ∧ Since w wr ∧ Env wr ∧ Hid (R = idxT (fun t => !termB t) (L.drop k) k)) (fun _ h _ => L.length - (intOf h).toNat)
    case atStart => exact ⟨0, by omega, rfl, Since.refl _, hE, hres0⟩
    case round =>
      clear hE hres0
      obtain ⟨k, hk, rfl, hS, hE, hres⟩ := hrel
      by_cases hlt : k < L.length
      · have d1 := hS.cell (HC.out k hlt).1
        have d2 := hS.cell (HC.out k hlt).2
        have hfl : (L[k].2).length ≤ maxLen := HL.out _ (List.getElem_mem hlt)
        have hst := List.drop_eq_getElem_cons hlt
        have HST := Lib.hid hst
        clear hst
        generalize L[k] = t at *
        obtain ⟨tv, tl⟩ := t
        have hres' := hres.out
        rw [HST.out, idxT] at hres'
        have HRES := Lib.hid hres'
        clear hres' hres
        cases hm : (fun t : Tm => !termB t) (tv, tl)
        · have hm' : (!termB (tv, tl)) = false := hm
          have hnx : Hid (R = idxT (fun t => !termB t) (L.drop (k + 1)) (k + 1)) := by
            have := HRES.out
            rw [if_neg (fun h => Bool.false_ne_true (hm'.symm.trans h))] at this
            exact this
          clear hm
          go_wp2_with fail
          refine (check1_any _ _ _ hfl hE).mono ?_
          rintro e w4 ⟨rfl, hb4⟩
          try rw [hm']
          go_wp2_with fail
          go_roundw
          case rel => exact ⟨k + 1, by omega, by go_num, hS.trans hb4, hE.next hb4, hnx⟩
          case measure => simp [intOf]; omega
        · have hm' : (!termB (tv, tl)) = true := hm
          have hnx : Hid (R = k) := by
            have := HRES.out
            rw [if_pos hm'] at this
            exact this
          clear hm
          go_wp2_with fail
          refine (check1_any _ _ _ hfl hE).mono ?_
          rintro e w4 ⟨rfl, hb4⟩
          try rw [hm']
          go_wp2_with fail
          go_ret
          exact ⟨ret_int hnx.out.symm, hS.trans hb4⟩
      · go_wp2
        go_ret
        refine ⟨ret_int ?_, hS⟩
        rw [hres.out, List.drop_eq_nil_of_le (by omega)]; rfl
  · obtain ⟨a, c, rfl⟩ := hv.form
    have hn : L = [] := List.eq_nil_of_length_eq_zero (by omega)
    subst hn
    have hR1 : R = -1 := hR.out
    subst hR1
    clear hv hl hres0 hR
    go_enter Tryz.func63, Tryz.ntmps63
    go_wp2
    go_loop [5, 8] (fun i h => h = .int .i64 0) (fun _ _ => 0)
    case atStart => rfl
    case round =>
      subst hrel
      go_wp2
      go_ret
      exact ⟨rfl, Since.refl _⟩

set_option maxHeartbeats 400000 in
theorem has_bad (v : Value) (L : List Tm) (w : World) (hE : Env w) (hv : TmRow w v L) (hl : ∀ t ∈ L, t.2.length ≤ maxLen) (hm : L.length ≤ 4) :
    Calls Tryz.prog 45 #[v, .func (.func 47) #[] #[]] w fun e w' => e = .returned (.bool (L.any fun t => !termB t)) ∧ Since w w' := by
  have H := Lib.hid (idx_bad v L w hE hv hl hm)
  have ha := idxT_any (fun t => !termB t) L 0
  clear hE hv hl hm
  rw [← ha]
  clear ha
  generalize idxT (fun t => !termB t) L 0 = R at *
  go_enter Tryz.func45, Tryz.ntmps45
  go_wp2_with fail
  refine H.out.mono ?_
  rintro e w1 ⟨rfl, hb⟩
  go_wp2_with fail
  go_ret
  exact ⟨rfl, hb⟩

set_option maxHeartbeats 400000 in
theorem idx_var (v : Value) (L : List Tm) (w : World) (hE : Env w) (hv : TmRow w v L) (hl : ∀ t ∈ L, t.2.length ≤ maxLen) (hm : L.length ≤ 4) :
    Calls Tryz.prog 63 #[v, .func (.func 93) #[] #[]] w fun e w' => e = .returned (.int .i64 (idxT (fun t => t.1) L 0)) ∧ Since w w' := by
  obtain ⟨R, hR⟩ : ∃ R, Hid (R = idxT (fun t => t.1) L 0) := ⟨idxT (fun t => t.1) L 0, rfl⟩
  have hres0 : Hid (R = idxT (fun t => t.1) (L.drop 0) 0) := hR
  rw [← hR.out]
  by_cases h0 : 0 < L.length
  · obtain ⟨b, o, c, rfl, hc, hcell⟩ := hv.some h0
    have HC := Lib.hid hcell
    have HL := Lib.hid hl
    clear hv hcell hl
    go_enter Tryz.func63, Tryz.ntmps63
    go_wp2
    go_loopw [5, 8] (fun i h wr => ∃ k : Nat, k ≤ L.length ∧ h = .int .i64 k ∧ Since w wr ∧ Env wr ∧ Hid (R = idxT (fun t => t.1) (L.drop k) k)) (fun _ h _ => L.length - (intOf h).toNat)
    case atStart => exact ⟨0, by omega, rfl, Since.refl _, hE, hres0⟩
    case round =>
      clear hE hres0
      obtain ⟨k, hk, rfl, hS, hE, hres⟩ := hrel
      by_cases hlt : k < L.length
      · have d1 := hS.cell (HC.out k hlt).1
        have d2 := hS.cell (HC.out k hlt).2
        have hfl : (L[k].2).length ≤ maxLen := HL.out _ (List.getElem_mem hlt)
        have hst := List.drop_eq_getElem_cons hlt
        have HST := Lib.hid hst
        clear hst
        generalize L[k] = t at *
        obtain ⟨tv, tl⟩ := t
        have hres' := hres.out
        rw [HST.out, idxT] at hres'
        have HRES := Lib.hid hres'
        clear hres' hres
        cases hm : (fun t : Tm => t.1) (tv, tl)
        · have hm' : (tv) = false := hm
          have hnx : Hid (R = idxT (fun t => t.1) (L.drop (k + 1)) (k + 1)) := by
            have := HRES.out
            rw [if_neg (fun h => Bool.false_ne_true (hm'.symm.trans h))] at this
            exact this
          clear hm
          go_wp2_with fail
          refine (ground1_any _ _ _ hfl hE).mono ?_
          rintro e w4 ⟨rfl, hb4⟩
          try rw [hm']
          go_wp2_with fail
          go_roundw
          case rel => exact ⟨k + 1, by omega, by go_num, hS.trans hb4, hE.next hb4, hnx⟩
          case measure => simp [intOf]; omega
        · have hm' : (tv) = true := hm
          have hnx : Hid (R = k) := by
            have := HRES.out
            rw [if_pos hm'] at this
            exact this
          clear hm
          go_wp2_with fail
          refine (ground1_any _ _ _ hfl hE).mono ?_
          rintro e w4 ⟨rfl, hb4⟩
          try rw [hm']
          go_wp2_with fail
          go_ret
          exact ⟨ret_int hnx.out.symm, hS.trans hb4⟩
      · go_wp2
        go_ret
        refine ⟨ret_int ?_, hS⟩
        rw [hres.out, List.drop_eq_nil_of_le (by omega)]; rfl
  · obtain ⟨a, c, rfl⟩ := hv.form
    have hn : L = [] := List.eq_nil_of_length_eq_zero (by omega)
    subst hn
    have hR1 : R = -1 := hR.out
    subst hR1
    clear hv hl hres0 hR
    go_enter Tryz.func63, Tryz.ntmps63
    go_wp2
    go_loop [5, 8] (fun i h => h = .int .i64 0) (fun _ _ => 0)
    case atStart => rfl
    case round =>
      subst hrel
      go_wp2
      go_ret
      exact ⟨rfl, Since.refl _⟩

set_option maxHeartbeats 400000 in
theorem has_var (v : Value) (L : List Tm) (w : World) (hE : Env w) (hv : TmRow w v L) (hl : ∀ t ∈ L, t.2.length ≤ maxLen) (hm : L.length ≤ 4) :
    Calls Tryz.prog 45 #[v, .func (.func 93) #[] #[]] w fun e w' => e = .returned (.bool (L.any fun t => t.1)) ∧ Since w w' := by
  have H := Lib.hid (idx_var v L w hE hv hl hm)
  have ha := idxT_any (fun t => t.1) L 0
  clear hE hv hl hm
  rw [← ha]
  clear ha
  generalize idxT (fun t => t.1) L 0 = R at *
  go_enter Tryz.func45, Tryz.ntmps45
  go_wp2_with fail
  refine H.out.mono ?_
  rintro e w1 ⟨rfl, hb⟩
  go_wp2_with fail
  go_ret
  exact ⟨rfl, hb⟩

/-- The terms that are looked at are those up to N. -/
theorem countA_in {a : Atm} (h0 : 0 ≤ a.2.2.1) (h4 : a.2.2.1 ≤ 4) : countA a = a.2.2.1.toNat := by unfold countA; omega
theorem any_not_all (L : List Tm) : (L.any fun t => !termB t) = !(L.all termB) := by
  induction L with
  | nil => rfl
  | cons t r ih => rw [List.any_cons, List.all_cons, ih, Bool.not_and]

set_option maxHeartbeats 1000000 in
set_option maxRecDepth 100000 in
theorem check_any (a_s a_p : List UInt8) (a_n : Int) (a_v0 a_v1 a_v2 a_v3 : Bool) (a_l0 a_l1 a_l2 a_l3 : List UInt8) (w : World) (hF : FitsA ((a_s, a_p, a_n, (a_v0, a_l0), (a_v1, a_l1), (a_v2, a_l2), (a_v3, a_l3)) : Atm)) (hE : Env w) :
    Calls Tryz.prog 30 #[.agg #[.string ⟨a_s.toArray⟩, .string ⟨a_p.toArray⟩, .int .i64 a_n, .bool a_v0, .string ⟨a_l0.toArray⟩, .bool a_v1, .string ⟨a_l1.toArray⟩, .bool a_v2, .string ⟨a_l2.toArray⟩, .bool a_v3, .string ⟨a_l3.toArray⟩]] w fun e w' => e = .returned (.int .i64 (checkA ((a_s, a_p, a_n, (a_v0, a_l0), (a_v1, a_l1), (a_v2, a_l2), (a_v3, a_l3)) : Atm))) ∧ Since w w' := by
  have HW : Box (w.alloc (.cells #[.string ⟨a_s.toArray⟩, .string ⟨a_p.toArray⟩, .int .i64 a_n, .bool a_v0, .string ⟨a_l0.toArray⟩, .bool a_v1, .string ⟨a_l1.toArray⟩, .bool a_v2, .string ⟨a_l2.toArray⟩, .bool a_v3, .string ⟨a_l3.toArray⟩] 33)) w.heap.size ((a_s, a_p, a_n, (a_v0, a_l0), (a_v1, a_l1), (a_v2, a_l2), (a_v3, a_l3)) : Atm) := box_new w ((a_s, a_p, a_n, (a_v0, a_l0), (a_v1, a_l1), (a_v2, a_l2), (a_v3, a_l3)) : Atm) _
  have hS : Since w (w.alloc (.cells #[.string ⟨a_s.toArray⟩, .string ⟨a_p.toArray⟩, .int .i64 a_n, .bool a_v0, .string ⟨a_l0.toArray⟩, .bool a_v1, .string ⟨a_l1.toArray⟩, .bool a_v2, .string ⟨a_l2.toArray⟩, .bool a_v3, .string ⟨a_l3.toArray⟩] 33)) := (Since.refl _).alloc _
  have hE0 := hE.next hS
  clear hE
  have f1 : a_s.length ≤ maxLen := hF.1
  have f2 : a_p.length ≤ maxLen := hF.2.1
  have HF := Lib.hid hF.2.2
  clear hF
  cases h1 : principalB a_s
  · have hR : checkA ((a_s, a_p, a_n, (a_v0, a_l0), (a_v1, a_l1), (a_v2, a_l2), (a_v3, a_l3)) : Atm) = 3 := checkA_name (by show (principalB a_s && principalB a_p) = false; rw [h1]; rfl)
    rw [hR]
    clear hR
    go_enter Tryz.func30, Tryz.ntmps30
    go_wp2_with fail
    refine (principal_any _ _ f1 hE0).mono ?_
    rintro e w1 ⟨rfl, hb⟩
    go_wp2_with fail
    go_ret
    exact ⟨rfl, hS.trans hb⟩
  cases h2 : principalB a_p
  · have hR : checkA ((a_s, a_p, a_n, (a_v0, a_l0), (a_v1, a_l1), (a_v2, a_l2), (a_v3, a_l3)) : Atm) = 3 := checkA_name (by show (principalB a_s && principalB a_p) = false; rw [h1, h2]; rfl)
    rw [hR]
    clear hR
    go_enter Tryz.func30, Tryz.ntmps30
    go_wp2_with fail
    refine (principal_any _ _ f1 hE0).mono ?_
    rintro e w1 ⟨rfl, hb⟩
    have HW1 := HW.next hb
    have c2 := HW1.p
    have hE1 := hE0.next hb
    go_wp2_with fail
    refine (predicate_any _ _ f2 hE1).mono ?_
    rintro e w2 ⟨rfl, hb2⟩
    have HW2 := HW1.next hb2
    have hE2 := hE1.next hb2
    have hS2 := (hS.trans hb).trans hb2
    clear c2 hb hb2 HW HW1 hS hE0 hE1
    have c3 := HW2.n
    go_wp2_with fail
    go_ret
    exact ⟨rfl, hS2⟩
  have hpp : (principalB (((a_s, a_p, a_n, (a_v0, a_l0), (a_v1, a_l1), (a_v2, a_l2), (a_v3, a_l3)) : Atm)).1 && principalB (((a_s, a_p, a_n, (a_v0, a_l0), (a_v1, a_l1), (a_v2, a_l2), (a_v3, a_l3)) : Atm)).2.1) = true := by show (principalB a_s && principalB a_p) = true; rw [h1, h2]; rfl
  have HP := Lib.hid hpp
  clear hpp
  rcases Int.lt_or_le a_n 0 with hn0 | hn0
  · have hR : checkA ((a_s, a_p, a_n, (a_v0, a_l0), (a_v1, a_l1), (a_v2, a_l2), (a_v3, a_l3)) : Atm) = 4 := checkA_n HP.out (.inl hn0)
    rw [hR]
    clear hR
    go_enter Tryz.func30, Tryz.ntmps30
    go_wp2_with fail
    refine (principal_any _ _ f1 hE0).mono ?_
    rintro e w1 ⟨rfl, hb⟩
    have HW1 := HW.next hb
    have c2 := HW1.p
    have hE1 := hE0.next hb
    go_wp2_with fail
    refine (predicate_any _ _ f2 hE1).mono ?_
    rintro e w2 ⟨rfl, hb2⟩
    have HW2 := HW1.next hb2
    have hE2 := hE1.next hb2
    have hS2 := (hS.trans hb).trans hb2
    clear c2 hb hb2 HW HW1 hS hE0 hE1
    have c3 := HW2.n
    go_wp2_with fail
    go_ret
    exact ⟨rfl, hS2⟩
  rcases Int.lt_or_le 4 a_n with hn4 | hn4
  · have hR : checkA ((a_s, a_p, a_n, (a_v0, a_l0), (a_v1, a_l1), (a_v2, a_l2), (a_v3, a_l3)) : Atm) = 4 := checkA_n HP.out (.inr hn4)
    rw [hR]
    clear hR
    go_enter Tryz.func30, Tryz.ntmps30
    go_wp2_with fail
    refine (principal_any _ _ f1 hE0).mono ?_
    rintro e w1 ⟨rfl, hb⟩
    have HW1 := HW.next hb
    have c2 := HW1.p
    have hE1 := hE0.next hb
    go_wp2_with fail
    refine (predicate_any _ _ f2 hE1).mono ?_
    rintro e w2 ⟨rfl, hb2⟩
    have HW2 := HW1.next hb2
    have hE2 := hE1.next hb2
    have hS2 := (hS.trans hb).trans hb2
    clear c2 hb hb2 HW HW1 hS hE0 hE1
    have c3 := HW2.n
    go_wp2_with fail
    go_ret
    exact ⟨rfl, hS2⟩
  · have hR := checkA_go HP.out hn0 hn4
    have hcount := countA_in (a := ((a_s, a_p, a_n, (a_v0, a_l0), (a_v1, a_l1), (a_v2, a_l2), (a_v3, a_l3)) : Atm)) hn0 hn4
    obtain ⟨n, hn⟩ := Int.eq_ofNat_of_zero_le hn0
    have e0 : (((a_s, a_p, a_n, (a_v0, a_l0), (a_v1, a_l1), (a_v2, a_l2), (a_v3, a_l3)) : Atm)).2.2.1.toNat = n := by show a_n.toNat = n; omega
    rw [e0] at hR hcount
    subst hn
    have HARGS := Lib.hid (fun w => targs_any a_s a_p (n : Int) a_v0 a_v1 a_v2 a_v3 a_l0 a_l1 a_l2 a_l3 w)
    rw [hcount] at HARGS
    have hn4' : n ≤ 4 := by omega
    obtain ⟨L, hL⟩ : ∃ L, Hid (L = argsL (a_s, a_p, (n : Int), (a_v0, a_l0), (a_v1, a_l1), (a_v2, a_l2), (a_v3, a_l3))) := ⟨_, rfl⟩
    obtain ⟨R, hRR⟩ : ∃ R, Hid (R = checkA (a_s, a_p, (n : Int), (a_v0, a_l0), (a_v1, a_l1), (a_v2, a_l2), (a_v3, a_l3))) := ⟨_, rfl⟩
    rw [← hRR.out] at hR ⊢
    rw [← hL.out] at hR HF HARGS
    have hl4 : L.length = 4 := by rw [hL.out]; rfl
    have HL4 := Lib.hid hl4
    have hany := any_not_all (L.take n)
    have HR := Lib.hid hR
    have hsl := fun b o W => sl_l n hn4' b o W
    clear hR hl4 e0 hcount
    go_enter Tryz.func30, Tryz.ntmps30
    go_wp2_with fail
    refine (principal_any _ _ f1 hE0).mono ?_
    rintro e w1 ⟨rfl, hb⟩
    have HW1 := HW.next hb
    have c2 := HW1.p
    have hE1 := hE0.next hb
    go_wp2_with fail
    refine (predicate_any _ _ f2 hE1).mono ?_
    rintro e w2 ⟨rfl, hb2⟩
    have HW2 := HW1.next hb2
    have hE2 := hE1.next hb2
    have hS2 := (hS.trans hb).trans hb2
    clear c2 hb hb2 HW HW1 hS hE0 hE1
    have c3 := HW2.n
    have HA2 := HW2.args
    rw [← hL.out] at HA2
    obtain ⟨d0, _, _, d3, d4, d5, d6, d7, d8, d9, d10⟩ := HW2.all
    go_wp2_with fail
    refine (HARGS.out _).mono ?_
    rintro e w3 ⟨rfl, hrow, hb3⟩
    clear d0 d3 d4 d5 d6 d7 d8 d9 d10 c3
    have hE3 := hE2.next hb3
    have HH := Lib.hid (has_bad _ _ _ hE3 hrow (fun t ht => HF.out t (List.mem_of_mem_take ht)) (by rw [List.length_take]; omega))
    rw [hany] at HH
    have HW3 := HW2.next hb3
    have c3 := HW3.n
    clear hrow HARGS hany
    go_wp2_with fail
    refine HH.out.mono ?_
    rintro e w4 ⟨rfl, hb4⟩
    have hS4 := (hS2.trans hb3).trans hb4
    have HW4 := HW3.next hb4
    clear c3
    have c3 := HW4.n
    have HA4 := (HA2.next hb3).next hb4
    have hR := HR.out
    clear HW3 HW2 hS2 hE3 hE2 HH HA2 hb3 hb4
    cases hbad : (L.take n).all termB
    · rw [hbad, if_pos (by rfl)] at hR
      subst hR
      go_wp2_with fail
      go_ret
      exact ⟨rfl, hS4⟩
    · rw [hbad, if_neg (by simp)] at hR
      have HR2 := Lib.hid hR
      clear hR HR hbad
      by_cases hn3 : n < 4
      · have hif : ∀ o : Nat, (if 4 = n then o else o + n * 2) = o + n * 2 := fun o => if_neg (by omega)
        simp only [hif] at hsl
        clear hif
        have hcells : Hid (∀ k, (h : n + k < L.length) → w4.cell? ⟨w.heap.size, 3 + n * 2 + k * 2, none⟩ = some (.bool L[n + k].1) ∧ w4.cell? ⟨w.heap.size, 3 + n * 2 + k * 2 + 1, none⟩ = some (.string ⟨L[n + k].2.toArray⟩)) := by
          intro k hk
          have := HA4.2 (n + k) hk
          rw [show 3 + (n + k) * 2 = 3 + n * 2 + k * 2 from by omega] at this
          exact this
        clear HA4 HW4
        have hR2' : Hid (R = if !((L.drop (n + 0)).all fun t => decide (t = (false, []))) then 15 else 0) := HR2.out
        go_wp2_with fail
        clear c3 HR2
        go_loopw [4, 33] (fun _ i wr => ∃ k : Nat, n + k ≤ 4 ∧ i = .int .i64 k ∧ Since w4 wr ∧ Hid (R = if !((L.drop (n + k)).all fun t => decide (t = (false, []))) then 15 else 0)) (fun _ i _ => 4 - (intOf i).toNat)
        case atStart => exact ⟨0, by omega, rfl, Since.refl _, hR2'⟩
        case round =>
          clear hR2'
          obtain ⟨k, hk, rfl, hSw, hres⟩ := hrel
          by_cases hlt : (k : Int) < ((4 - n : Nat) : Int)
          · have hkL : n + k < L.length := by rw [HL4.out]; omega
            have d1 := hSw.cell (hcells.out k hkL).1
            have d2 := hSw.cell (hcells.out k hkL).2
            have hst := all_step (m := fun t : Tm => decide (t = (false, []))) hkL
            have HST := Lib.hid hst
            have hk5 : (k : Int) ≤ 4 := by omega
            have hnx : ∀ b : Bool, decide (L[n + k] = (false, [])) = b → Hid (R = if !(b && (L.drop (n + (k + 1))).all fun t => decide (t = (false, []))) then 15 else 0) := by
              intro b hb
              have := hres.out
              rw [HST.out, hb] at this
              exact this
            have HNX := Lib.hid hnx
            clear hst hres HST hnx
            generalize L[n + k] = t at *
            obtain ⟨tv, tl⟩ := t
            cases tv
            · cases hz : (tl == [])
              · go_wp2_with fail
                go_ret
                refine ⟨ret_int ?_, hS4.trans ((hSw.alloc _))⟩
                have := (HNX.out false (decide_eq_false (by intro e; rw [show tl = [] from congrArg Prod.snd e] at hz; cases hz))).out
                rw [this]; rfl
              · go_wp2_with fail
                go_roundw
                case rel =>
                  refine ⟨k + 1, by omega, by go_num, hSw.alloc _, ?_⟩
                  have := HNX.out true (decide_eq_true (by rw [beq_iff_eq.1 hz]))
                  rw [Bool.true_and] at this
                  exact this
                case measure => simp [intOf]; omega
            · go_wp2_with fail
              go_ret
              refine ⟨ret_int ?_, hS4.trans ((hSw.alloc _))⟩
              have := (HNX.out false (decide_eq_false (by intro e; have := congrArg Prod.fst e; cases this))).out
              rw [this]; rfl
          · go_wp2_with fail
            go_ret
            refine ⟨ret_int ?_, hS4.trans hSw⟩
            rw [hres.out, all_done (by rw [HL4.out]; omega)]; rfl
      · obtain rfl : n = 4 := by omega
        have hR3 : R = 0 := by
          have := HR2.out
          rw [List.drop_eq_nil_of_le (by rw [HL4.out]; omega)] at this
          exact this
        subst hR3
        clear HR2 HA4 HW4
        go_wp2_with fail
        go_loop [33] (fun i => i = .int .i64 0) (fun _ => 0)
        case atStart => rfl
        case round =>
          subst hrel
          go_wp2_with fail
          go_ret
          exact ⟨rfl, hS4⟩
end Go.Proofs.YtbgdljcgbhhfdaaGreatDoor
