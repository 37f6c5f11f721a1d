/- TermMade returns true at every two names and list of terms, in every world in which the library's table strings.asciiSpace stands. -/
import Derived.Test.YtapkafdlbocmmaaDoorLawApart
import Derived.Test.YtapkafdlbocmmaaDoorTermQ
namespace Go.Proofs.YtapkafdlbocmmaaDoor
open Go.RowKit
attribute [local go_sem ↓] run_atomEq run_termEq'

/-- 'l[:m]'. -/
theorem run_cutTm (a : Option Addr) (n c m : Nat) (hm : m ≤ n) (hc : n ≤ c) (W : World) : (Instr.slice 36 (.slice a n c) none (some (.int .i64 m)) none).run Tryd.prog W = .ok (.slice a m c) W := by
  have h1 : (m : Int) ≤ (c : Int) := by omega
  go_simp
theorem tmRow_own {W : World} {base : Nat} {v : Value} {n : Nat} {L : List Tm} (h : W.ownsRow base 23 2 v n (L.flatMap tmC)) (hL : L.length = n) : TmRow W v L := by
  have h2 := rowOf_of_own tmC_len h hL
  rcases h.2 with ⟨e, h0⟩ | ⟨g, cap, cur, e, _, _, hn, _⟩
  · exact .inl ⟨e, List.eq_nil_of_length_eq_zero (by omega)⟩
  · refine .inr ⟨g, 0, cap, by rw [hL]; exact e, by rw [hL]; exact hn, fun k hk => ?_⟩
    obtain ⟨a, c, h3, h4, h5, h6⟩ := h2
    obtain ⟨b, o, e2, hc⟩ := h6 (by omega)
    rw [e] at h3
    injection h3 with h3 _ _
    rw [e2] at h3
    injection h3 with h3
    injection h3 with hb ho _
    subst hb ho
    exact ⟨hc k hk 0 _ rfl, hc k hk 1 _ rfl⟩
theorem Blk_lt {W : World} {g : Nat} {o : Obj} (h : W.heap[g]? = some o) : g < W.heap.size := (Array.getElem?_eq_some_iff.1 h).1
theorem frozen_of {W : World} {g : Nat} {cs : Array Value} {t : TypeId} (h : W.heap[g]? = some (.cells cs t (0, 0))) (i : Nat) : W.frozen? ⟨g, i, none⟩ = false := by
  simp [World.frozen?, h]
attribute [local go_sem] eqA_self eqT_self

set_option maxHeartbeats 4000000 in
set_option maxRecDepth 100000 in
theorem madeL_0 (s p : List UInt8) (a : Option Addr) (c : Nat) (w : World) (hE : Env w) (hs : s.length ≤ 300) (hp : p.length ≤ 300) (hv : RowOf 2 tmC w (.slice a 0 c) ([] : List Tm)) (hl : ∀ t ∈ ([] : List Tm), t.2.length ≤ maxLen) :
    Calls Tryd.prog 4 #[.string ⟨s.toArray⟩, .string ⟨p.toArray⟩, .slice a 0 c] w fun e w' => e = .returned (.bool true) ∧ Since w w' := by
  have hS := Since.refl w
  have hsM : s.length ≤ maxLen := Nat.le_trans hs (by unfold maxLen; omega)
  have hpM : p.length ≤ maxLen := Nat.le_trans hp (by unfold maxLen; omega)
  have g1 : decide ((300 : Int) < (s.length : Int)) = false := decide_eq_false (by omega)
  have g2 : decide ((300 : Int) < (p.length : Int)) = false := decide_eq_false (by omega)
  obtain ⟨L, hL⟩ : ∃ L, Hid (L = ([] : List Tm)) := ⟨([] : List Tm), rfl⟩
  have hLn : Hid (L.length = 0) := by show _ = _; rw [hL.out]; rfl
  have hM := made_of (s := s) (p := p) (L := ([] : List Tm)) (by simp)
  rw [← hL.out] at hv hl hM
  have HL := Lib.hid hl
  have HM := Lib.hid hM
  clear hl hM
  cases hz : (checkA (padA s p L) != 0)
  case true =>
    have HMade : Hid (∀ v' W, Env W → TmRow W v' L → Calls Tryd.prog 19 #[.string ⟨s.toArray⟩, .string ⟨p.toArray⟩, v'] W fun e w' => e = .returned (.tuple #[.agg #[.string ⟨#[]⟩, .string ⟨#[]⟩, .int .i64 0, .bool false, .string ⟨#[]⟩, .bool false, .string ⟨#[]⟩, .bool false, .string ⟨#[]⟩, .bool false, .string ⟨#[]⟩], .int .i64 (checkA (padA s p L))]) ∧ Since W w') := by
      intro v' W hEW hrow
      have h := made_any s p v' L W hEW hrow hsM hpM HL.out (by rw [hLn.out]; decide)
      rw [HM.out, if_pos hz] at h
      exact h
    generalize checkA (padA s p L) = kk at *
    go_enter Tryd.func4, Tryd.ntmps4
    go_wp2_with (first
      | (go_at_call 18; refine (lives03_any _ hE).mono ?_; rintro e w1 ⟨rfl, hb⟩; replace hE := hE.next hb; replace hS := hS.trans hb; replace hv := hv.next hb)
      | (go_at_call 20; ((with_reducible refine (ownTm_any _ L _ hv (by rw [hLn.out]; decide)).mono ?_); rintro e w1 ⟨sv, rfl, hown, hb⟩; replace hE := hE.next hb; replace hS := hS.trans hb))
      | (go_at_call 19; ((with_reducible refine (HMade.out sv _ hE (tmRow_own hown rfl)).mono ?_); rintro e w2 ⟨rfl, hb⟩; replace hE := hE.next hb; replace hS := hS.trans hb)))
    go_ret
    exact ⟨rfl, hS.alloc _⟩
  case false =>
    have hz0 : checkA (padA s p L) = 0 := by simpa using hz
    obtain ⟨hps, hpp, hterm⟩ := (check_pad0 (by rw [hLn.out]; decide)).1 hz0
    have HT := Lib.hid hterm
    have HMade : Hid (∀ v' W, Env W → TmRow W v' L → Calls Tryd.prog 19 #[.string ⟨s.toArray⟩, .string ⟨p.toArray⟩, v'] W fun e w' => e = .returned (.tuple #[.agg #[.string ⟨s.toArray⟩, .string ⟨p.toArray⟩, .int .i64 0, .bool false, .string ⟨#[]⟩, .bool false, .string ⟨#[]⟩, .bool false, .string ⟨#[]⟩, .bool false, .string ⟨#[]⟩], .int .i64 0]) ∧ Since W w') := by
      intro v' W hEW hrow
      have h := made_any s p v' L W hEW hrow hsM hpM HL.out (by rw [hLn.out]; decide)
      rw [HM.out, if_neg (by rw [hz]; simp), hL.out] at h
      exact h
    have HCK : Hid (∀ W, Env W → Calls Tryd.prog 21 #[.agg #[.string ⟨s.toArray⟩, .string ⟨p.toArray⟩, .int .i64 0, .bool false, .string ⟨#[]⟩, .bool false, .string ⟨#[]⟩, .bool false, .string ⟨#[]⟩, .bool false, .string ⟨#[]⟩]] W fun e w' => e = .returned (.int .i64 0) ∧ Since W w') := by
      intro W hEW
      have hf : FitsA ((s, p, 0, (false, []), (false, []), (false, []), (false, [])) : Atm) := by
        refine ⟨hsM, hpM, fun t ht => ?_⟩
        have hl := HL.out
        rw [hL.out] at hl
        have ht' : t ∈ [(false, []), (false, []), (false, []), (false, [])] := ht
        simp only [List.mem_cons, List.not_mem_nil, or_false] at ht' hl
        rcases ht' with rfl | rfl | rfl | rfl <;> first | exact Nat.zero_le _ | (refine hl _ ?_; simp)
      have h := check_any s p 0 false false false false [] [] [] [] W hf hEW
      rw [hL.out] at hz0
      have e : checkA ((s, p, 0, (false, []), (false, []), (false, []), (false, [])) : Atm) = 0 := hz0
      rw [e] at h
      exact h
    clear hz hz0 hps hpp hterm HM
    go_enter Tryd.func4, Tryd.ntmps4
    go_wp2_with fail
    refine (lives03_any _ hE).mono ?_
    rintro e w1 ⟨rfl, hb⟩
    replace hE := hE.next hb; replace hS := hS.trans hb; replace hv := hv.next hb
    clear hb
    go_wp2_with fail
    refine (ownTm_any _ L _ hv (by rw [hLn.out]; decide)).mono ?_
    rintro e w2 ⟨sv, rfl, hown, hb⟩
    replace hE := hE.next hb; replace hS := hS.trans hb; replace hv := hv.next hb
    clear hb
    go_wp2_with fail
    refine (HMade.out sv _ hE (tmRow_own hown rfl)).mono ?_
    rintro e w3 ⟨rfl, hb⟩
    replace hE := hE.next hb; replace hS := hS.trans hb; replace hv := hv.next hb
    have hg3 : w.heap.size ≤ w3.heap.size := hS.size
    clear hb hown HMade
    go_wp2_with fail
    have hal : Since w3 (w3.alloc (.cells #[.string ⟨s.toArray⟩, .string ⟨p.toArray⟩, .int .i64 0, .bool false, .string ⟨#[]⟩, .bool false, .string ⟨#[]⟩, .bool false, .string ⟨#[]⟩, .bool false, .string ⟨#[]⟩] 26)) := (Since.refl _).alloc _
    refine (HCK.out _ (hE.next hal)).mono ?_
    rintro e w4 ⟨rfl, hb⟩
    have hblk : w4.heap[w3.heap.size]? = some (.cells #[.string ⟨s.toArray⟩, .string ⟨p.toArray⟩, .int .i64 0, .bool false, .string ⟨#[]⟩, .bool false, .string ⟨#[]⟩, .bool false, .string ⟨#[]⟩, .bool false, .string ⟨#[]⟩] 26 (0, 0)) := (Below.block hb w3.heap.size (by rw [World.size_alloc]; omega)).trans (heap_alloc_new _ _)
    have hbx := (box_new w3 ((s, p, 0, (false, []), (false, []), (false, []), (false, [])) : Atm) 26).next hb
    obtain ⟨a_c0, a_c1, a_c2, a_c3, a_c4, a_c5, a_c6, a_c7, a_c8, a_c9, a_c10⟩ := hbx.all
    replace hS := (hS.trans hal).trans hb
    have hSx := hal.trans hb
    replace hE := (hE.next hal).next hb; replace hv := (hv.next hal).next hb
    have HBLK := Lib.hid hblk
    clear hb hal HCK hSx hblk
    go_wp2_with fail
    go_loopw [9] (fun i wr => i = .int .i64 0 ∧ wr = w4) (fun _ _ => 0)
    case atStart => exact ⟨rfl, rfl⟩
    case round =>
      obtain ⟨rfl, rfl⟩ := hrel
      go_wp2_with fail
      go_ret
      exact ⟨rfl, hS⟩

set_option maxHeartbeats 4000000 in
set_option maxRecDepth 100000 in
theorem madeL_1 (s p : List UInt8) (v0 : Bool) (l0 : List UInt8) (a : Option Addr) (c : Nat) (w : World) (hE : Env w) (hs : s.length ≤ 300) (hp : p.length ≤ 300) (hv : RowOf 2 tmC w (.slice a 1 c) ([(v0, l0)] : List Tm)) (hl : ∀ t ∈ ([(v0, l0)] : List Tm), t.2.length ≤ maxLen) :
    Calls Tryd.prog 4 #[.string ⟨s.toArray⟩, .string ⟨p.toArray⟩, .slice a 1 c] w fun e w' => e = .returned (.bool true) ∧ Since w w' := by
  have hS := Since.refl w
  have hsM : s.length ≤ maxLen := Nat.le_trans hs (by unfold maxLen; omega)
  have hpM : p.length ≤ maxLen := Nat.le_trans hp (by unfold maxLen; omega)
  have g1 : decide ((300 : Int) < (s.length : Int)) = false := decide_eq_false (by omega)
  have g2 : decide ((300 : Int) < (p.length : Int)) = false := decide_eq_false (by omega)
  obtain ⟨L, hL⟩ : ∃ L, Hid (L = ([(v0, l0)] : List Tm)) := ⟨([(v0, l0)] : List Tm), rfl⟩
  have hLn : Hid (L.length = 1) := by show _ = _; rw [hL.out]; rfl
  have hM := made_of (s := s) (p := p) (L := ([(v0, l0)] : List Tm)) (by simp)
  rw [← hL.out] at hv hl hM
  have HL := Lib.hid hl
  have HM := Lib.hid hM
  clear hl hM
  cases hz : (checkA (padA s p L) != 0)
  case true =>
    have HMade : Hid (∀ v' W, Env W → TmRow W v' L → Calls Tryd.prog 19 #[.string ⟨s.toArray⟩, .string ⟨p.toArray⟩, v'] W fun e w' => e = .returned (.tuple #[.agg #[.string ⟨#[]⟩, .string ⟨#[]⟩, .int .i64 0, .bool false, .string ⟨#[]⟩, .bool false, .string ⟨#[]⟩, .bool false, .string ⟨#[]⟩, .bool false, .string ⟨#[]⟩], .int .i64 (checkA (padA s p L))]) ∧ Since W w') := by
      intro v' W hEW hrow
      have h := made_any s p v' L W hEW hrow hsM hpM HL.out (by rw [hLn.out]; decide)
      rw [HM.out, if_pos hz] at h
      exact h
    generalize checkA (padA s p L) = kk at *
    go_enter Tryd.func4, Tryd.ntmps4
    go_wp2_with (first
      | (go_at_call 18; refine (lives03_any _ hE).mono ?_; rintro e w1 ⟨rfl, hb⟩; replace hE := hE.next hb; replace hS := hS.trans hb; replace hv := hv.next hb)
      | (go_at_call 20; ((with_reducible refine (ownTm_any _ L _ hv (by rw [hLn.out]; decide)).mono ?_); rintro e w1 ⟨sv, rfl, hown, hb⟩; replace hE := hE.next hb; replace hS := hS.trans hb))
      | (go_at_call 19; ((with_reducible refine (HMade.out sv _ hE (tmRow_own hown rfl)).mono ?_); rintro e w2 ⟨rfl, hb⟩; replace hE := hE.next hb; replace hS := hS.trans hb)))
    go_ret
    exact ⟨rfl, hS.alloc _⟩
  case false =>
    obtain ⟨a', c', hv1, hv2, hv3, hv4⟩ := hv
    obtain ⟨b, o, ha, hcell⟩ := hv4 (by rw [hLn.out]; decide)
    injection hv1 with hv1 hv5 hv6
    subst hv1 hv6
    subst ha
    have hv : RowOf 2 tmC w (.slice (some ⟨b, o, none⟩) 1 c) L := ⟨_, _, by rw [hLn.out], hv2, hv3, hv4⟩
    have hc2 : 1 ≤ c := by rw [hLn.out] at hv2; exact hv2
    clear hv2 hv3 hv4 hv5 hcell
    have hz0 : checkA (padA s p L) = 0 := by simpa using hz
    obtain ⟨hps, hpp, hterm⟩ := (check_pad0 (by rw [hLn.out]; decide)).1 hz0
    have HT := Lib.hid hterm
    have HMade : Hid (∀ v' W, Env W → TmRow W v' L → Calls Tryd.prog 19 #[.string ⟨s.toArray⟩, .string ⟨p.toArray⟩, v'] W fun e w' => e = .returned (.tuple #[.agg #[.string ⟨s.toArray⟩, .string ⟨p.toArray⟩, .int .i64 1, .bool v0, .string ⟨l0.toArray⟩, .bool false, .string ⟨#[]⟩, .bool false, .string ⟨#[]⟩, .bool false, .string ⟨#[]⟩], .int .i64 0]) ∧ Since W w') := by
      intro v' W hEW hrow
      have h := made_any s p v' L W hEW hrow hsM hpM HL.out (by rw [hLn.out]; decide)
      rw [HM.out, if_neg (by rw [hz]; simp), hL.out] at h
      exact h
    have HCK : Hid (∀ W, Env W → Calls Tryd.prog 21 #[.agg #[.string ⟨s.toArray⟩, .string ⟨p.toArray⟩, .int .i64 1, .bool v0, .string ⟨l0.toArray⟩, .bool false, .string ⟨#[]⟩, .bool false, .string ⟨#[]⟩, .bool false, .string ⟨#[]⟩]] W fun e w' => e = .returned (.int .i64 0) ∧ Since W w') := by
      intro W hEW
      have hf : FitsA ((s, p, 1, (v0, l0), (false, []), (false, []), (false, [])) : Atm) := by
        refine ⟨hsM, hpM, fun t ht => ?_⟩
        have hl := HL.out
        rw [hL.out] at hl
        have ht' : t ∈ [(v0, l0), (false, []), (false, []), (false, [])] := ht
        simp only [List.mem_cons, List.not_mem_nil, or_false] at ht' hl
        rcases ht' with rfl | rfl | rfl | rfl <;> first | exact Nat.zero_le _ | (refine hl _ ?_; simp)
      have h := check_any s p 1 v0 false false false l0 [] [] [] W hf hEW
      rw [hL.out] at hz0
      have e : checkA ((s, p, 1, (v0, l0), (false, []), (false, []), (false, [])) : Atm) = 0 := hz0
      rw [e] at h
      exact h
    have h0L : L.take 0 = ([] : List Tm) := by rw [hL.out]; rfl
    have hz2 : checkA (padA s p (L.take 0)) = 0 := (check_pad0 (by rw [List.length_take]; omega)).2 ⟨hps, hpp, fun t ht => hterm t (List.mem_of_mem_take ht)⟩
    have HMade2 : Hid (∀ v' W, Env W → TmRow W v' (L.take 0) → Calls Tryd.prog 19 #[.string ⟨s.toArray⟩, .string ⟨p.toArray⟩, v'] W fun e w' => e = .returned (.tuple #[.agg #[.string ⟨s.toArray⟩, .string ⟨p.toArray⟩, .int .i64 0, .bool false, .string ⟨#[]⟩, .bool false, .string ⟨#[]⟩, .bool false, .string ⟨#[]⟩, .bool false, .string ⟨#[]⟩], .int .i64 0]) ∧ Since W w') := by
      intro v' W hEW hrow
      have h := made_any s p v' (L.take 0) W hEW hrow hsM hpM (fun t ht => HL.out t (List.mem_of_mem_take ht)) (by rw [List.length_take]; unfold maxLen; omega)
      rw [made_of (by rw [List.length_take]; omega), if_neg (by rw [hz2]; simp), h0L] at h
      exact h
    have hcut : ∀ W, (Instr.slice 36 (.slice (some ⟨b, o, none⟩) 1 c) none (some (.int .i64 0)) none).run Tryd.prog W = .ok (.slice (some ⟨b, o, none⟩) 0 c) W := fun W => run_cutTm (some ⟨b, o, none⟩) 1 c 0 (by decide) hc2 W
    clear hz2 h0L
    clear hz hz0 hps hpp hterm HM
    go_enter Tryd.func4, Tryd.ntmps4
    go_wp2_with fail
    refine (lives03_any _ hE).mono ?_
    rintro e w1 ⟨rfl, hb⟩
    replace hE := hE.next hb; replace hS := hS.trans hb; replace hv := hv.next hb
    clear hb
    go_wp2_with fail
    refine (ownTm_any _ L _ hv (by rw [hLn.out]; decide)).mono ?_
    rintro e w2 ⟨sv, rfl, hown, hb⟩
    replace hE := hE.next hb; replace hS := hS.trans hb; replace hv := hv.next hb
    clear hb
    go_wp2_with fail
    refine (HMade.out sv _ hE (tmRow_own hown rfl)).mono ?_
    rintro e w3 ⟨rfl, hb⟩
    replace hE := hE.next hb; replace hS := hS.trans hb; replace hv := hv.next hb
    have hg3 : w.heap.size ≤ w3.heap.size := hS.size
    clear hb hown HMade
    go_wp2_with fail
    have hal : Since w3 (w3.alloc (.cells #[.string ⟨s.toArray⟩, .string ⟨p.toArray⟩, .int .i64 1, .bool v0, .string ⟨l0.toArray⟩, .bool false, .string ⟨#[]⟩, .bool false, .string ⟨#[]⟩, .bool false, .string ⟨#[]⟩] 26)) := (Since.refl _).alloc _
    refine (HCK.out _ (hE.next hal)).mono ?_
    rintro e w4 ⟨rfl, hb⟩
    have hblk : w4.heap[w3.heap.size]? = some (.cells #[.string ⟨s.toArray⟩, .string ⟨p.toArray⟩, .int .i64 1, .bool v0, .string ⟨l0.toArray⟩, .bool false, .string ⟨#[]⟩, .bool false, .string ⟨#[]⟩, .bool false, .string ⟨#[]⟩] 26 (0, 0)) := (Below.block hb w3.heap.size (by rw [World.size_alloc]; omega)).trans (heap_alloc_new _ _)
    have hbx := (box_new w3 ((s, p, 1, (v0, l0), (false, []), (false, []), (false, [])) : Atm) 26).next hb
    obtain ⟨a_c0, a_c1, a_c2, a_c3, a_c4, a_c5, a_c6, a_c7, a_c8, a_c9, a_c10⟩ := hbx.all
    replace hS := (hS.trans hal).trans hb
    have hSx := hal.trans hb
    replace hE := (hE.next hal).next hb; replace hv := (hv.next hal).next hb
    have HBLK := Lib.hid hblk
    clear hb hal HCK hSx hblk
    go_wp2_with fail
    have hargs : Hid (∀ k, (h : k < L.length) → w4.cell? ⟨w3.heap.size, 3 + k * 2, none⟩ = some (.bool L[k].1) ∧ w4.cell? ⟨w3.heap.size, 3 + k * 2 + 1, none⟩ = some (.string ⟨L[k].2.toArray⟩)) := by
      intro k h
      have h4 : k < 4 := by rw [hLn.out] at h; omega
      have e : (argsL (padA s p L))[k]'(by exact h4) = L[k] := pad_args (by rw [hLn.out]; decide) k h (by exact h4)
      have e2 : argsL (padA s p L) = argsL ((s, p, 1, (v0, l0), (false, []), (false, []), (false, [])) : Atm) := by rw [hL.out]; rfl
      have h5 : ∀ (M : List Tm) (_ : M = argsL (padA s p L)) (h : k < M.length), M[k] = L[k] := by
        rintro M rfl h; exact e
      have h6 := hbx.args.2 k (by exact h4)
      have h7 := h5 _ e2.symm (by exact h4)
      exact ⟨h6.1.trans (by rw [h7]), h6.2.trans (by rw [h7])⟩
    have hvT := Lib.hid (tmRow_at (tmRow_of hv (.inr (by rw [hLn.out]; decide))))
    go_loopw [9] (fun i wr => ∃ k : Nat, k ≤ 1 ∧ i = .int .i64 k ∧ Since w4 wr) (fun i _ => 1 - (intOf i).toNat)
    case atStart => exact ⟨0, by omega, rfl, Since.refl _⟩
    case round =>
      obtain ⟨k, hk, rfl, hSr⟩ := hrel
      by_cases hlt : k < 1
      · have hkL : k < L.length := by rw [hLn.out]; exact hlt
        obtain ⟨d3, d4⟩ := hargs.out k hkL
        obtain ⟨f1, f2⟩ := hvT.out k hkL
        replace d3 := hSr.cell d3
        replace d4 := hSr.cell d4
        replace f1 := hSr.cell f1
        replace f2 := hSr.cell f2
        have hEr := hE.next hSr
        have ht := HT.out _ (List.getElem_mem hkL)
        have hl300 := HL.out _ (List.getElem_mem hkL)
        have hk4 : (k : Int) < 4 := by omega
        have hk0 : (0 : Int) ≤ (k : Int) := by omega
        have hkn : (k : Int) < 1 := by omega
        generalize L[k] = t at *
        obtain ⟨tv, tl⟩ := t
        have HTM : Hid (∀ W, Env W → Calls Tryd.prog 22 #[.agg #[.bool tv, .string ⟨tl.toArray⟩]] W fun e w' => e = .returned (.bool true) ∧ Since W w') := by
          intro W hW
          have h := term_any tv tl W hl300 hW
          rw [ht] at h; exact h
        go_wp2_with fail
        go_region_held3 (fun w' => w'.cell? ⟨w3.heap.size, 3 + k * 2, none⟩ = some (.bool tv) ∧ w'.cell? ⟨w3.heap.size, 3 + k * 2 + 1, none⟩ = some (.string ⟨tl.toArray⟩) ∧ w'.cell? ⟨b, o + k * 2, none⟩ = some (.bool tv) ∧ w'.cell? ⟨b, o + k * 2 + 1, none⟩ = some (.string ⟨tl.toArray⟩) ∧ Env w')
          (first | (refine ⟨?_, ?_, ?_, ?_, ?_⟩ <;> assumption) | (go_split_ands; refine ⟨?_, ?_, ?_, ?_, ?_⟩ <;> first | (refine Since.cell hb ?_; assumption) | (refine Env.next ?_ hb; assumption)))
          (first | (go_at_call 22; ((with_reducible refine (HTM.out _ (by go_split_ands; assumption)).mono ?_); rintro e w5 ⟨rfl, hb⟩)))
        go_wp2_with fail
        go_roundw
        case rel => exact ⟨k + 1, by omega, by go_num, hSr.drew.trans hb⟩
        case measure => simp [intOf]; omega
      · obtain rfl : k = 1 := by omega
        replace hE := hE.next hSr
        replace hS := hS.trans hSr
        replace hv := hv.next hSr
        have hblk : wr.heap[w3.heap.size]? = some (.cells #[.string ⟨s.toArray⟩, .string ⟨p.toArray⟩, .int .i64 1, .bool v0, .string ⟨l0.toArray⟩, .bool false, .string ⟨#[]⟩, .bool false, .string ⟨#[]⟩, .bool false, .string ⟨#[]⟩] 26 (0, 0)) := (Below.block hSr w3.heap.size (World.block_lt_of_cell? _ _ a_c0)).trans HBLK.out
        have HB2 := Lib.hid hblk
        clear hargs hvT HT HBLK hlt hk hblk hSr hbx
        clear a_c0 a_c1 a_c2 a_c3 a_c4 a_c5 a_c6 a_c7 a_c8 a_c9 a_c10
        go_wp2_with fail
        refine (ownTm_any _ (L.take 0) _ (rowOf_cut hv 0 (by decide)) (by rw [List.length_take]; omega)).mono ?_
        rintro e w6 ⟨sv2, rfl, hown, hb⟩
        replace hE := hE.next hb
        have hrow2 := tmRow_own hown rfl
        go_wp2_with fail
        refine (HMade2.out sv2 _ hE hrow2).mono ?_
        rintro e w7 ⟨rfl, hb2⟩
        replace hS := (hS.trans hb).trans hb2
        have hlt3 : w3.heap.size < wr.heap.size := Blk_lt HB2.out
        have hblk7 : w7.heap[w3.heap.size]? = some (.cells #[.string ⟨s.toArray⟩, .string ⟨p.toArray⟩, .int .i64 1, .bool v0, .string ⟨l0.toArray⟩, .bool false, .string ⟨#[]⟩, .bool false, .string ⟨#[]⟩, .bool false, .string ⟨#[]⟩] 26 (0, 0)) := ((Below.block hb2 w3.heap.size (Nat.lt_of_lt_of_le hlt3 hb.size)).trans (Below.block hb w3.heap.size hlt3)).trans HB2.out
        have hbx7 : Box w7 w3.heap.size ((s, p, 1, (v0, l0), (false, []), (false, []), (false, [])) : Atm) := box_of_heap hblk7
        obtain ⟨a_c0, a_c1, a_c2, a_c3, a_c4, a_c5, a_c6, a_c7, a_c8, a_c9, a_c10⟩ := hbx7.all
        have z2 := frozen_of hblk7 2
        have z3 := frozen_of hblk7 3
        have z4 := frozen_of hblk7 4
        have hlt7 : w3.heap.size < w7.heap.size := World.block_lt_of_cell? _ _ a_c0
        have HB7 := Lib.hid hblk7
        clear hblk7 hbx7 HB2 hv hown hrow2 hb hb2 HMade2 hE hcut
        go_wp2_with fail
        go_ret
        refine ⟨rfl, ?_⟩
        repeat (first | exact hS | refine Since.setCell ?_ hg3 _ | refine Since.alloc ?_ _)

set_option maxHeartbeats 4000000 in
set_option maxRecDepth 100000 in
theorem madeL_2 (s p : List UInt8) (v0 v1 : Bool) (l0 l1 : List UInt8) (a : Option Addr) (c : Nat) (w : World) (hE : Env w) (hs : s.length ≤ 300) (hp : p.length ≤ 300) (hv : RowOf 2 tmC w (.slice a 2 c) ([(v0, l0), (v1, l1)] : List Tm)) (hl : ∀ t ∈ ([(v0, l0), (v1, l1)] : List Tm), t.2.length ≤ maxLen) :
    Calls Tryd.prog 4 #[.string ⟨s.toArray⟩, .string ⟨p.toArray⟩, .slice a 2 c] w fun e w' => e = .returned (.bool true) ∧ Since w w' := by
  have hS := Since.refl w
  have hsM : s.length ≤ maxLen := Nat.le_trans hs (by unfold maxLen; omega)
  have hpM : p.length ≤ maxLen := Nat.le_trans hp (by unfold maxLen; omega)
  have g1 : decide ((300 : Int) < (s.length : Int)) = false := decide_eq_false (by omega)
  have g2 : decide ((300 : Int) < (p.length : Int)) = false := decide_eq_false (by omega)
  obtain ⟨L, hL⟩ : ∃ L, Hid (L = ([(v0, l0), (v1, l1)] : List Tm)) := ⟨([(v0, l0), (v1, l1)] : List Tm), rfl⟩
  have hLn : Hid (L.length = 2) := by show _ = _; rw [hL.out]; rfl
  have hM := made_of (s := s) (p := p) (L := ([(v0, l0), (v1, l1)] : List Tm)) (by simp)
  rw [← hL.out] at hv hl hM
  have HL := Lib.hid hl
  have HM := Lib.hid hM
  clear hl hM
  cases hz : (checkA (padA s p L) != 0)
  case true =>
    have HMade : Hid (∀ v' W, Env W → TmRow W v' L → Calls Tryd.prog 19 #[.string ⟨s.toArray⟩, .string ⟨p.toArray⟩, v'] W fun e w' => e = .returned (.tuple #[.agg #[.string ⟨#[]⟩, .string ⟨#[]⟩, .int .i64 0, .bool false, .string ⟨#[]⟩, .bool false, .string ⟨#[]⟩, .bool false, .string ⟨#[]⟩, .bool false, .string ⟨#[]⟩], .int .i64 (checkA (padA s p L))]) ∧ Since W w') := by
      intro v' W hEW hrow
      have h := made_any s p v' L W hEW hrow hsM hpM HL.out (by rw [hLn.out]; decide)
      rw [HM.out, if_pos hz] at h
      exact h
    generalize checkA (padA s p L) = kk at *
    go_enter Tryd.func4, Tryd.ntmps4
    go_wp2_with (first
      | (go_at_call 18; refine (lives03_any _ hE).mono ?_; rintro e w1 ⟨rfl, hb⟩; replace hE := hE.next hb; replace hS := hS.trans hb; replace hv := hv.next hb)
      | (go_at_call 20; ((with_reducible refine (ownTm_any _ L _ hv (by rw [hLn.out]; decide)).mono ?_); rintro e w1 ⟨sv, rfl, hown, hb⟩; replace hE := hE.next hb; replace hS := hS.trans hb))
      | (go_at_call 19; ((with_reducible refine (HMade.out sv _ hE (tmRow_own hown rfl)).mono ?_); rintro e w2 ⟨rfl, hb⟩; replace hE := hE.next hb; replace hS := hS.trans hb)))
    go_ret
    exact ⟨rfl, hS.alloc _⟩
  case false =>
    obtain ⟨a', c', hv1, hv2, hv3, hv4⟩ := hv
    obtain ⟨b, o, ha, hcell⟩ := hv4 (by rw [hLn.out]; decide)
    injection hv1 with hv1 hv5 hv6
    subst hv1 hv6
    subst ha
    have hv : RowOf 2 tmC w (.slice (some ⟨b, o, none⟩) 2 c) L := ⟨_, _, by rw [hLn.out], hv2, hv3, hv4⟩
    have hc2 : 2 ≤ c := by rw [hLn.out] at hv2; exact hv2
    clear hv2 hv3 hv4 hv5 hcell
    have hz0 : checkA (padA s p L) = 0 := by simpa using hz
    obtain ⟨hps, hpp, hterm⟩ := (check_pad0 (by rw [hLn.out]; decide)).1 hz0
    have HT := Lib.hid hterm
    have HMade : Hid (∀ v' W, Env W → TmRow W v' L → Calls Tryd.prog 19 #[.string ⟨s.toArray⟩, .string ⟨p.toArray⟩, v'] W fun e w' => e = .returned (.tuple #[.agg #[.string ⟨s.toArray⟩, .string ⟨p.toArray⟩, .int .i64 2, .bool v0, .string ⟨l0.toArray⟩, .bool v1, .string ⟨l1.toArray⟩, .bool false, .string ⟨#[]⟩, .bool false, .string ⟨#[]⟩], .int .i64 0]) ∧ Since W w') := by
      intro v' W hEW hrow
      have h := made_any s p v' L W hEW hrow hsM hpM HL.out (by rw [hLn.out]; decide)
      rw [HM.out, if_neg (by rw [hz]; simp), hL.out] at h
      exact h
    have HCK : Hid (∀ W, Env W → Calls Tryd.prog 21 #[.agg #[.string ⟨s.toArray⟩, .string ⟨p.toArray⟩, .int .i64 2, .bool v0, .string ⟨l0.toArray⟩, .bool v1, .string ⟨l1.toArray⟩, .bool false, .string ⟨#[]⟩, .bool false, .string ⟨#[]⟩]] W fun e w' => e = .returned (.int .i64 0) ∧ Since W w') := by
      intro W hEW
      have hf : FitsA ((s, p, 2, (v0, l0), (v1, l1), (false, []), (false, [])) : Atm) := by
        refine ⟨hsM, hpM, fun t ht => ?_⟩
        have hl := HL.out
        rw [hL.out] at hl
        have ht' : t ∈ [(v0, l0), (v1, l1), (false, []), (false, [])] := ht
        simp only [List.mem_cons, List.not_mem_nil, or_false] at ht' hl
        rcases ht' with rfl | rfl | rfl | rfl <;> first | exact Nat.zero_le _ | (refine hl _ ?_; simp)
      have h := check_any s p 2 v0 v1 false false l0 l1 [] [] W hf hEW
      rw [hL.out] at hz0
      have e : checkA ((s, p, 2, (v0, l0), (v1, l1), (false, []), (false, [])) : Atm) = 0 := hz0
      rw [e] at h
      exact h
    have h0L : L.take 1 = ([(v0, l0)] : List Tm) := by rw [hL.out]; rfl
    have hz2 : checkA (padA s p (L.take 1)) = 0 := (check_pad0 (by rw [List.length_take]; omega)).2 ⟨hps, hpp, fun t ht => hterm t (List.mem_of_mem_take ht)⟩
    have HMade2 : Hid (∀ v' W, Env W → TmRow W v' (L.take 1) → Calls Tryd.prog 19 #[.string ⟨s.toArray⟩, .string ⟨p.toArray⟩, v'] W fun e w' => e = .returned (.tuple #[.agg #[.string ⟨s.toArray⟩, .string ⟨p.toArray⟩, .int .i64 1, .bool v0, .string ⟨l0.toArray⟩, .bool false, .string ⟨#[]⟩, .bool false, .string ⟨#[]⟩, .bool false, .string ⟨#[]⟩], .int .i64 0]) ∧ Since W w') := by
      intro v' W hEW hrow
      have h := made_any s p v' (L.take 1) W hEW hrow hsM hpM (fun t ht => HL.out t (List.mem_of_mem_take ht)) (by rw [List.length_take]; unfold maxLen; omega)
      rw [made_of (by rw [List.length_take]; omega), if_neg (by rw [hz2]; simp), h0L] at h
      exact h
    have hcut : ∀ W, (Instr.slice 36 (.slice (some ⟨b, o, none⟩) 2 c) none (some (.int .i64 1)) none).run Tryd.prog W = .ok (.slice (some ⟨b, o, none⟩) 1 c) W := fun W => run_cutTm (some ⟨b, o, none⟩) 2 c 1 (by decide) hc2 W
    clear hz2 h0L
    clear hz hz0 hps hpp hterm HM
    go_enter Tryd.func4, Tryd.ntmps4
    go_wp2_with fail
    refine (lives03_any _ hE).mono ?_
    rintro e w1 ⟨rfl, hb⟩
    replace hE := hE.next hb; replace hS := hS.trans hb; replace hv := hv.next hb
    clear hb
    go_wp2_with fail
    refine (ownTm_any _ L _ hv (by rw [hLn.out]; decide)).mono ?_
    rintro e w2 ⟨sv, rfl, hown, hb⟩
    replace hE := hE.next hb; replace hS := hS.trans hb; replace hv := hv.next hb
    clear hb
    go_wp2_with fail
    refine (HMade.out sv _ hE (tmRow_own hown rfl)).mono ?_
    rintro e w3 ⟨rfl, hb⟩
    replace hE := hE.next hb; replace hS := hS.trans hb; replace hv := hv.next hb
    have hg3 : w.heap.size ≤ w3.heap.size := hS.size
    clear hb hown HMade
    go_wp2_with fail
    have hal : Since w3 (w3.alloc (.cells #[.string ⟨s.toArray⟩, .string ⟨p.toArray⟩, .int .i64 2, .bool v0, .string ⟨l0.toArray⟩, .bool v1, .string ⟨l1.toArray⟩, .bool false, .string ⟨#[]⟩, .bool false, .string ⟨#[]⟩] 26)) := (Since.refl _).alloc _
    refine (HCK.out _ (hE.next hal)).mono ?_
    rintro e w4 ⟨rfl, hb⟩
    have hblk : w4.heap[w3.heap.size]? = some (.cells #[.string ⟨s.toArray⟩, .string ⟨p.toArray⟩, .int .i64 2, .bool v0, .string ⟨l0.toArray⟩, .bool v1, .string ⟨l1.toArray⟩, .bool false, .string ⟨#[]⟩, .bool false, .string ⟨#[]⟩] 26 (0, 0)) := (Below.block hb w3.heap.size (by rw [World.size_alloc]; omega)).trans (heap_alloc_new _ _)
    have hbx := (box_new w3 ((s, p, 2, (v0, l0), (v1, l1), (false, []), (false, [])) : Atm) 26).next hb
    obtain ⟨a_c0, a_c1, a_c2, a_c3, a_c4, a_c5, a_c6, a_c7, a_c8, a_c9, a_c10⟩ := hbx.all
    replace hS := (hS.trans hal).trans hb
    have hSx := hal.trans hb
    replace hE := (hE.next hal).next hb; replace hv := (hv.next hal).next hb
    have HBLK := Lib.hid hblk
    clear hb hal HCK hSx hblk
    go_wp2_with fail
    have hargs : Hid (∀ k, (h : k < L.length) → w4.cell? ⟨w3.heap.size, 3 + k * 2, none⟩ = some (.bool L[k].1) ∧ w4.cell? ⟨w3.heap.size, 3 + k * 2 + 1, none⟩ = some (.string ⟨L[k].2.toArray⟩)) := by
      intro k h
      have h4 : k < 4 := by rw [hLn.out] at h; omega
      have e : (argsL (padA s p L))[k]'(by exact h4) = L[k] := pad_args (by rw [hLn.out]; decide) k h (by exact h4)
      have e2 : argsL (padA s p L) = argsL ((s, p, 2, (v0, l0), (v1, l1), (false, []), (false, [])) : Atm) := by rw [hL.out]; rfl
      have h5 : ∀ (M : List Tm) (_ : M = argsL (padA s p L)) (h : k < M.length), M[k] = L[k] := by
        rintro M rfl h; exact e
      have h6 := hbx.args.2 k (by exact h4)
      have h7 := h5 _ e2.symm (by exact h4)
      exact ⟨h6.1.trans (by rw [h7]), h6.2.trans (by rw [h7])⟩
    have hvT := Lib.hid (tmRow_at (tmRow_of hv (.inr (by rw [hLn.out]; decide))))
    go_loopw [9] (fun i wr => ∃ k : Nat, k ≤ 2 ∧ i = .int .i64 k ∧ Since w4 wr) (fun i _ => 2 - (intOf i).toNat)
    case atStart => exact ⟨0, by omega, rfl, Since.refl _⟩
    case round =>
      obtain ⟨k, hk, rfl, hSr⟩ := hrel
      by_cases hlt : k < 2
      · have hkL : k < L.length := by rw [hLn.out]; exact hlt
        obtain ⟨d3, d4⟩ := hargs.out k hkL
        obtain ⟨f1, f2⟩ := hvT.out k hkL
        replace d3 := hSr.cell d3
        replace d4 := hSr.cell d4
        replace f1 := hSr.cell f1
        replace f2 := hSr.cell f2
        have hEr := hE.next hSr
        have ht := HT.out _ (List.getElem_mem hkL)
        have hl300 := HL.out _ (List.getElem_mem hkL)
        have hk4 : (k : Int) < 4 := by omega
        have hk0 : (0 : Int) ≤ (k : Int) := by omega
        have hkn : (k : Int) < 2 := by omega
        generalize L[k] = t at *
        obtain ⟨tv, tl⟩ := t
        have HTM : Hid (∀ W, Env W → Calls Tryd.prog 22 #[.agg #[.bool tv, .string ⟨tl.toArray⟩]] W fun e w' => e = .returned (.bool true) ∧ Since W w') := by
          intro W hW
          have h := term_any tv tl W hl300 hW
          rw [ht] at h; exact h
        go_wp2_with fail
        go_region_held3 (fun w' => w'.cell? ⟨w3.heap.size, 3 + k * 2, none⟩ = some (.bool tv) ∧ w'.cell? ⟨w3.heap.size, 3 + k * 2 + 1, none⟩ = some (.string ⟨tl.toArray⟩) ∧ w'.cell? ⟨b, o + k * 2, none⟩ = some (.bool tv) ∧ w'.cell? ⟨b, o + k * 2 + 1, none⟩ = some (.string ⟨tl.toArray⟩) ∧ Env w')
          (first | (refine ⟨?_, ?_, ?_, ?_, ?_⟩ <;> assumption) | (go_split_ands; refine ⟨?_, ?_, ?_, ?_, ?_⟩ <;> first | (refine Since.cell hb ?_; assumption) | (refine Env.next ?_ hb; assumption)))
          (first | (go_at_call 22; ((with_reducible refine (HTM.out _ (by go_split_ands; assumption)).mono ?_); rintro e w5 ⟨rfl, hb⟩)))
        go_wp2_with fail
        go_roundw
        case rel => exact ⟨k + 1, by omega, by go_num, hSr.drew.trans hb⟩
        case measure => simp [intOf]; omega
      · obtain rfl : k = 2 := by omega
        replace hE := hE.next hSr
        replace hS := hS.trans hSr
        replace hv := hv.next hSr
        have hblk : wr.heap[w3.heap.size]? = some (.cells #[.string ⟨s.toArray⟩, .string ⟨p.toArray⟩, .int .i64 2, .bool v0, .string ⟨l0.toArray⟩, .bool v1, .string ⟨l1.toArray⟩, .bool false, .string ⟨#[]⟩, .bool false, .string ⟨#[]⟩] 26 (0, 0)) := (Below.block hSr w3.heap.size (World.block_lt_of_cell? _ _ a_c0)).trans HBLK.out
        have HB2 := Lib.hid hblk
        clear hargs hvT HT HBLK hlt hk hblk hSr hbx
        clear a_c0 a_c1 a_c2 a_c3 a_c4 a_c5 a_c6 a_c7 a_c8 a_c9 a_c10
        go_wp2_with fail
        refine (ownTm_any _ (L.take 1) _ (rowOf_cut hv 1 (by decide)) (by rw [List.length_take]; omega)).mono ?_
        rintro e w6 ⟨sv2, rfl, hown, hb⟩
        replace hE := hE.next hb
        have hrow2 := tmRow_own hown rfl
        go_wp2_with fail
        refine (HMade2.out sv2 _ hE hrow2).mono ?_
        rintro e w7 ⟨rfl, hb2⟩
        replace hS := (hS.trans hb).trans hb2
        have hlt3 : w3.heap.size < wr.heap.size := Blk_lt HB2.out
        have hblk7 : w7.heap[w3.heap.size]? = some (.cells #[.string ⟨s.toArray⟩, .string ⟨p.toArray⟩, .int .i64 2, .bool v0, .string ⟨l0.toArray⟩, .bool v1, .string ⟨l1.toArray⟩, .bool false, .string ⟨#[]⟩, .bool false, .string ⟨#[]⟩] 26 (0, 0)) := ((Below.block hb2 w3.heap.size (Nat.lt_of_lt_of_le hlt3 hb.size)).trans (Below.block hb w3.heap.size hlt3)).trans HB2.out
        have hbx7 : Box w7 w3.heap.size ((s, p, 2, (v0, l0), (v1, l1), (false, []), (false, [])) : Atm) := box_of_heap hblk7
        obtain ⟨a_c0, a_c1, a_c2, a_c3, a_c4, a_c5, a_c6, a_c7, a_c8, a_c9, a_c10⟩ := hbx7.all
        have z2 := frozen_of hblk7 2
        have z3 := frozen_of hblk7 5
        have z4 := frozen_of hblk7 6
        have hlt7 : w3.heap.size < w7.heap.size := World.block_lt_of_cell? _ _ a_c0
        have HB7 := Lib.hid hblk7
        clear hblk7 hbx7 HB2 hv hown hrow2 hb hb2 HMade2 hE hcut
        go_wp2_with fail
        go_ret
        refine ⟨rfl, ?_⟩
        repeat (first | exact hS | refine Since.setCell ?_ hg3 _ | refine Since.alloc ?_ _)

set_option maxHeartbeats 4000000 in
set_option maxRecDepth 100000 in
theorem madeL_3 (s p : List UInt8) (v0 v1 v2 : Bool) (l0 l1 l2 : List UInt8) (a : Option Addr) (c : Nat) (w : World) (hE : Env w) (hs : s.length ≤ 300) (hp : p.length ≤ 300) (hv : RowOf 2 tmC w (.slice a 3 c) ([(v0, l0), (v1, l1), (v2, l2)] : List Tm)) (hl : ∀ t ∈ ([(v0, l0), (v1, l1), (v2, l2)] : List Tm), t.2.length ≤ maxLen) :
    Calls Tryd.prog 4 #[.string ⟨s.toArray⟩, .string ⟨p.toArray⟩, .slice a 3 c] w fun e w' => e = .returned (.bool true) ∧ Since w w' := by
  have hS := Since.refl w
  have hsM : s.length ≤ maxLen := Nat.le_trans hs (by unfold maxLen; omega)
  have hpM : p.length ≤ maxLen := Nat.le_trans hp (by unfold maxLen; omega)
  have g1 : decide ((300 : Int) < (s.length : Int)) = false := decide_eq_false (by omega)
  have g2 : decide ((300 : Int) < (p.length : Int)) = false := decide_eq_false (by omega)
  obtain ⟨L, hL⟩ : ∃ L, Hid (L = ([(v0, l0), (v1, l1), (v2, l2)] : List Tm)) := ⟨([(v0, l0), (v1, l1), (v2, l2)] : List Tm), rfl⟩
  have hLn : Hid (L.length = 3) := by show _ = _; rw [hL.out]; rfl
  have hM := made_of (s := s) (p := p) (L := ([(v0, l0), (v1, l1), (v2, l2)] : List Tm)) (by simp)
  rw [← hL.out] at hv hl hM
  have HL := Lib.hid hl
  have HM := Lib.hid hM
  clear hl hM
  cases hz : (checkA (padA s p L) != 0)
  case true =>
    have HMade : Hid (∀ v' W, Env W → TmRow W v' L → Calls Tryd.prog 19 #[.string ⟨s.toArray⟩, .string ⟨p.toArray⟩, v'] W fun e w' => e = .returned (.tuple #[.agg #[.string ⟨#[]⟩, .string ⟨#[]⟩, .int .i64 0, .bool false, .string ⟨#[]⟩, .bool false, .string ⟨#[]⟩, .bool false, .string ⟨#[]⟩, .bool false, .string ⟨#[]⟩], .int .i64 (checkA (padA s p L))]) ∧ Since W w') := by
      intro v' W hEW hrow
      have h := made_any s p v' L W hEW hrow hsM hpM HL.out (by rw [hLn.out]; decide)
      rw [HM.out, if_pos hz] at h
      exact h
    generalize checkA (padA s p L) = kk at *
    go_enter Tryd.func4, Tryd.ntmps4
    go_wp2_with (first
      | (go_at_call 18; refine (lives03_any _ hE).mono ?_; rintro e w1 ⟨rfl, hb⟩; replace hE := hE.next hb; replace hS := hS.trans hb; replace hv := hv.next hb)
      | (go_at_call 20; ((with_reducible refine (ownTm_any _ L _ hv (by rw [hLn.out]; decide)).mono ?_); rintro e w1 ⟨sv, rfl, hown, hb⟩; replace hE := hE.next hb; replace hS := hS.trans hb))
      | (go_at_call 19; ((with_reducible refine (HMade.out sv _ hE (tmRow_own hown rfl)).mono ?_); rintro e w2 ⟨rfl, hb⟩; replace hE := hE.next hb; replace hS := hS.trans hb)))
    go_ret
    exact ⟨rfl, hS.alloc _⟩
  case false =>
    obtain ⟨a', c', hv1, hv2, hv3, hv4⟩ := hv
    obtain ⟨b, o, ha, hcell⟩ := hv4 (by rw [hLn.out]; decide)
    injection hv1 with hv1 hv5 hv6
    subst hv1 hv6
    subst ha
    have hv : RowOf 2 tmC w (.slice (some ⟨b, o, none⟩) 3 c) L := ⟨_, _, by rw [hLn.out], hv2, hv3, hv4⟩
    have hc2 : 3 ≤ c := by rw [hLn.out] at hv2; exact hv2
    clear hv2 hv3 hv4 hv5 hcell
    have hz0 : checkA (padA s p L) = 0 := by simpa using hz
    obtain ⟨hps, hpp, hterm⟩ := (check_pad0 (by rw [hLn.out]; decide)).1 hz0
    have HT := Lib.hid hterm
    have HMade : Hid (∀ v' W, Env W → TmRow W v' L → Calls Tryd.prog 19 #[.string ⟨s.toArray⟩, .string ⟨p.toArray⟩, v'] W fun e w' => e = .returned (.tuple #[.agg #[.string ⟨s.toArray⟩, .string ⟨p.toArray⟩, .int .i64 3, .bool v0, .string ⟨l0.toArray⟩, .bool v1, .string ⟨l1.toArray⟩, .bool v2, .string ⟨l2.toArray⟩, .bool false, .string ⟨#[]⟩], .int .i64 0]) ∧ Since W w') := by
      intro v' W hEW hrow
      have h := made_any s p v' L W hEW hrow hsM hpM HL.out (by rw [hLn.out]; decide)
      rw [HM.out, if_neg (by rw [hz]; simp), hL.out] at h
      exact h
    have HCK : Hid (∀ W, Env W → Calls Tryd.prog 21 #[.agg #[.string ⟨s.toArray⟩, .string ⟨p.toArray⟩, .int .i64 3, .bool v0, .string ⟨l0.toArray⟩, .bool v1, .string ⟨l1.toArray⟩, .bool v2, .string ⟨l2.toArray⟩, .bool false, .string ⟨#[]⟩]] W fun e w' => e = .returned (.int .i64 0) ∧ Since W w') := by
      intro W hEW
      have hf : FitsA ((s, p, 3, (v0, l0), (v1, l1), (v2, l2), (false, [])) : Atm) := by
        refine ⟨hsM, hpM, fun t ht => ?_⟩
        have hl := HL.out
        rw [hL.out] at hl
        have ht' : t ∈ [(v0, l0), (v1, l1), (v2, l2), (false, [])] := ht
        simp only [List.mem_cons, List.not_mem_nil, or_false] at ht' hl
        rcases ht' with rfl | rfl | rfl | rfl <;> first | exact Nat.zero_le _ | (refine hl _ ?_; simp)
      have h := check_any s p 3 v0 v1 v2 false l0 l1 l2 [] W hf hEW
      rw [hL.out] at hz0
      have e : checkA ((s, p, 3, (v0, l0), (v1, l1), (v2, l2), (false, [])) : Atm) = 0 := hz0
      rw [e] at h
      exact h
    have h0L : L.take 2 = ([(v0, l0), (v1, l1)] : List Tm) := by rw [hL.out]; rfl
    have hz2 : checkA (padA s p (L.take 2)) = 0 := (check_pad0 (by rw [List.length_take]; omega)).2 ⟨hps, hpp, fun t ht => hterm t (List.mem_of_mem_take ht)⟩
    have HMade2 : Hid (∀ v' W, Env W → TmRow W v' (L.take 2) → Calls Tryd.prog 19 #[.string ⟨s.toArray⟩, .string ⟨p.toArray⟩, v'] W fun e w' => e = .returned (.tuple #[.agg #[.string ⟨s.toArray⟩, .string ⟨p.toArray⟩, .int .i64 2, .bool v0, .string ⟨l0.toArray⟩, .bool v1, .string ⟨l1.toArray⟩, .bool false, .string ⟨#[]⟩, .bool false, .string ⟨#[]⟩], .int .i64 0]) ∧ Since W w') := by
      intro v' W hEW hrow
      have h := made_any s p v' (L.take 2) W hEW hrow hsM hpM (fun t ht => HL.out t (List.mem_of_mem_take ht)) (by rw [List.length_take]; unfold maxLen; omega)
      rw [made_of (by rw [List.length_take]; omega), if_neg (by rw [hz2]; simp), h0L] at h
      exact h
    have hcut : ∀ W, (Instr.slice 36 (.slice (some ⟨b, o, none⟩) 3 c) none (some (.int .i64 2)) none).run Tryd.prog W = .ok (.slice (some ⟨b, o, none⟩) 2 c) W := fun W => run_cutTm (some ⟨b, o, none⟩) 3 c 2 (by decide) hc2 W
    clear hz2 h0L
    clear hz hz0 hps hpp hterm HM
    go_enter Tryd.func4, Tryd.ntmps4
    go_wp2_with fail
    refine (lives03_any _ hE).mono ?_
    rintro e w1 ⟨rfl, hb⟩
    replace hE := hE.next hb; replace hS := hS.trans hb; replace hv := hv.next hb
    clear hb
    go_wp2_with fail
    refine (ownTm_any _ L _ hv (by rw [hLn.out]; decide)).mono ?_
    rintro e w2 ⟨sv, rfl, hown, hb⟩
    replace hE := hE.next hb; replace hS := hS.trans hb; replace hv := hv.next hb
    clear hb
    go_wp2_with fail
    refine (HMade.out sv _ hE (tmRow_own hown rfl)).mono ?_
    rintro e w3 ⟨rfl, hb⟩
    replace hE := hE.next hb; replace hS := hS.trans hb; replace hv := hv.next hb
    have hg3 : w.heap.size ≤ w3.heap.size := hS.size
    clear hb hown HMade
    go_wp2_with fail
    have hal : Since w3 (w3.alloc (.cells #[.string ⟨s.toArray⟩, .string ⟨p.toArray⟩, .int .i64 3, .bool v0, .string ⟨l0.toArray⟩, .bool v1, .string ⟨l1.toArray⟩, .bool v2, .string ⟨l2.toArray⟩, .bool false, .string ⟨#[]⟩] 26)) := (Since.refl _).alloc _
    refine (HCK.out _ (hE.next hal)).mono ?_
    rintro e w4 ⟨rfl, hb⟩
    have hblk : w4.heap[w3.heap.size]? = some (.cells #[.string ⟨s.toArray⟩, .string ⟨p.toArray⟩, .int .i64 3, .bool v0, .string ⟨l0.toArray⟩, .bool v1, .string ⟨l1.toArray⟩, .bool v2, .string ⟨l2.toArray⟩, .bool false, .string ⟨#[]⟩] 26 (0, 0)) := (Below.block hb w3.heap.size (by rw [World.size_alloc]; omega)).trans (heap_alloc_new _ _)
    have hbx := (box_new w3 ((s, p, 3, (v0, l0), (v1, l1), (v2, l2), (false, [])) : Atm) 26).next hb
    obtain ⟨a_c0, a_c1, a_c2, a_c3, a_c4, a_c5, a_c6, a_c7, a_c8, a_c9, a_c10⟩ := hbx.all
    replace hS := (hS.trans hal).trans hb
    have hSx := hal.trans hb
    replace hE := (hE.next hal).next hb; replace hv := (hv.next hal).next hb
    have HBLK := Lib.hid hblk
    clear hb hal HCK hSx hblk
    go_wp2_with fail
    have hargs : Hid (∀ k, (h : k < L.length) → w4.cell? ⟨w3.heap.size, 3 + k * 2, none⟩ = some (.bool L[k].1) ∧ w4.cell? ⟨w3.heap.size, 3 + k * 2 + 1, none⟩ = some (.string ⟨L[k].2.toArray⟩)) := by
      intro k h
      have h4 : k < 4 := by rw [hLn.out] at h; omega
      have e : (argsL (padA s p L))[k]'(by exact h4) = L[k] := pad_args (by rw [hLn.out]; decide) k h (by exact h4)
      have e2 : argsL (padA s p L) = argsL ((s, p, 3, (v0, l0), (v1, l1), (v2, l2), (false, [])) : Atm) := by rw [hL.out]; rfl
      have h5 : ∀ (M : List Tm) (_ : M = argsL (padA s p L)) (h : k < M.length), M[k] = L[k] := by
        rintro M rfl h; exact e
      have h6 := hbx.args.2 k (by exact h4)
      have h7 := h5 _ e2.symm (by exact h4)
      exact ⟨h6.1.trans (by rw [h7]), h6.2.trans (by rw [h7])⟩
    have hvT := Lib.hid (tmRow_at (tmRow_of hv (.inr (by rw [hLn.out]; decide))))
    go_loopw [9] (fun i wr => ∃ k : Nat, k ≤ 3 ∧ i = .int .i64 k ∧ Since w4 wr) (fun i _ => 3 - (intOf i).toNat)
    case atStart => exact ⟨0, by omega, rfl, Since.refl _⟩
    case round =>
      obtain ⟨k, hk, rfl, hSr⟩ := hrel
      by_cases hlt : k < 3
      · have hkL : k < L.length := by rw [hLn.out]; exact hlt
        obtain ⟨d3, d4⟩ := hargs.out k hkL
        obtain ⟨f1, f2⟩ := hvT.out k hkL
        replace d3 := hSr.cell d3
        replace d4 := hSr.cell d4
        replace f1 := hSr.cell f1
        replace f2 := hSr.cell f2
        have hEr := hE.next hSr
        have ht := HT.out _ (List.getElem_mem hkL)
        have hl300 := HL.out _ (List.getElem_mem hkL)
        have hk4 : (k : Int) < 4 := by omega
        have hk0 : (0 : Int) ≤ (k : Int) := by omega
        have hkn : (k : Int) < 3 := by omega
        generalize L[k] = t at *
        obtain ⟨tv, tl⟩ := t
        have HTM : Hid (∀ W, Env W → Calls Tryd.prog 22 #[.agg #[.bool tv, .string ⟨tl.toArray⟩]] W fun e w' => e = .returned (.bool true) ∧ Since W w') := by
          intro W hW
          have h := term_any tv tl W hl300 hW
          rw [ht] at h; exact h
        go_wp2_with fail
        go_region_held3 (fun w' => w'.cell? ⟨w3.heap.size, 3 + k * 2, none⟩ = some (.bool tv) ∧ w'.cell? ⟨w3.heap.size, 3 + k * 2 + 1, none⟩ = some (.string ⟨tl.toArray⟩) ∧ w'.cell? ⟨b, o + k * 2, none⟩ = some (.bool tv) ∧ w'.cell? ⟨b, o + k * 2 + 1, none⟩ = some (.string ⟨tl.toArray⟩) ∧ Env w')
          (first | (refine ⟨?_, ?_, ?_, ?_, ?_⟩ <;> assumption) | (go_split_ands; refine ⟨?_, ?_, ?_, ?_, ?_⟩ <;> first | (refine Since.cell hb ?_; assumption) | (refine Env.next ?_ hb; assumption)))
          (first | (go_at_call 22; ((with_reducible refine (HTM.out _ (by go_split_ands; assumption)).mono ?_); rintro e w5 ⟨rfl, hb⟩)))
        go_wp2_with fail
        go_roundw
        case rel => exact ⟨k + 1, by omega, by go_num, hSr.drew.trans hb⟩
        case measure => simp [intOf]; omega
      · obtain rfl : k = 3 := by omega
        replace hE := hE.next hSr
        replace hS := hS.trans hSr
        replace hv := hv.next hSr
        have hblk : wr.heap[w3.heap.size]? = some (.cells #[.string ⟨s.toArray⟩, .string ⟨p.toArray⟩, .int .i64 3, .bool v0, .string ⟨l0.toArray⟩, .bool v1, .string ⟨l1.toArray⟩, .bool v2, .string ⟨l2.toArray⟩, .bool false, .string ⟨#[]⟩] 26 (0, 0)) := (Below.block hSr w3.heap.size (World.block_lt_of_cell? _ _ a_c0)).trans HBLK.out
        have HB2 := Lib.hid hblk
        clear hargs hvT HT HBLK hlt hk hblk hSr hbx
        clear a_c0 a_c1 a_c2 a_c3 a_c4 a_c5 a_c6 a_c7 a_c8 a_c9 a_c10
        go_wp2_with fail
        refine (ownTm_any _ (L.take 2) _ (rowOf_cut hv 2 (by decide)) (by rw [List.length_take]; omega)).mono ?_
        rintro e w6 ⟨sv2, rfl, hown, hb⟩
        replace hE := hE.next hb
        have hrow2 := tmRow_own hown rfl
        go_wp2_with fail
        refine (HMade2.out sv2 _ hE hrow2).mono ?_
        rintro e w7 ⟨rfl, hb2⟩
        replace hS := (hS.trans hb).trans hb2
        have hlt3 : w3.heap.size < wr.heap.size := Blk_lt HB2.out
        have hblk7 : w7.heap[w3.heap.size]? = some (.cells #[.string ⟨s.toArray⟩, .string ⟨p.toArray⟩, .int .i64 3, .bool v0, .string ⟨l0.toArray⟩, .bool v1, .string ⟨l1.toArray⟩, .bool v2, .string ⟨l2.toArray⟩, .bool false, .string ⟨#[]⟩] 26 (0, 0)) := ((Below.block hb2 w3.heap.size (Nat.lt_of_lt_of_le hlt3 hb.size)).trans (Below.block hb w3.heap.size hlt3)).trans HB2.out
        have hbx7 : Box w7 w3.heap.size ((s, p, 3, (v0, l0), (v1, l1), (v2, l2), (false, [])) : Atm) := box_of_heap hblk7
        obtain ⟨a_c0, a_c1, a_c2, a_c3, a_c4, a_c5, a_c6, a_c7, a_c8, a_c9, a_c10⟩ := hbx7.all
        have z2 := frozen_of hblk7 2
        have z3 := frozen_of hblk7 7
        have z4 := frozen_of hblk7 8
        have hlt7 : w3.heap.size < w7.heap.size := World.block_lt_of_cell? _ _ a_c0
        have HB7 := Lib.hid hblk7
        clear hblk7 hbx7 HB2 hv hown hrow2 hb hb2 HMade2 hE hcut
        go_wp2_with fail
        go_ret
        refine ⟨rfl, ?_⟩
        repeat (first | exact hS | refine Since.setCell ?_ hg3 _ | refine Since.alloc ?_ _)

set_option maxHeartbeats 4000000 in
set_option maxRecDepth 100000 in
theorem madeL_4 (s p : List UInt8) (v0 v1 v2 v3 : Bool) (l0 l1 l2 l3 : List UInt8) (a : Option Addr) (c : Nat) (w : World) (hE : Env w) (hs : s.length ≤ 300) (hp : p.length ≤ 300) (hv : RowOf 2 tmC w (.slice a 4 c) ([(v0, l0), (v1, l1), (v2, l2), (v3, l3)] : List Tm)) (hl : ∀ t ∈ ([(v0, l0), (v1, l1), (v2, l2), (v3, l3)] : List Tm), t.2.length ≤ maxLen) :
    Calls Tryd.prog 4 #[.string ⟨s.toArray⟩, .string ⟨p.toArray⟩, .slice a 4 c] w fun e w' => e = .returned (.bool true) ∧ Since w w' := by
  have hS := Since.refl w
  have hsM : s.length ≤ maxLen := Nat.le_trans hs (by unfold maxLen; omega)
  have hpM : p.length ≤ maxLen := Nat.le_trans hp (by unfold maxLen; omega)
  have g1 : decide ((300 : Int) < (s.length : Int)) = false := decide_eq_false (by omega)
  have g2 : decide ((300 : Int) < (p.length : Int)) = false := decide_eq_false (by omega)
  obtain ⟨L, hL⟩ : ∃ L, Hid (L = ([(v0, l0), (v1, l1), (v2, l2), (v3, l3)] : List Tm)) := ⟨([(v0, l0), (v1, l1), (v2, l2), (v3, l3)] : List Tm), rfl⟩
  have hLn : Hid (L.length = 4) := by show _ = _; rw [hL.out]; rfl
  have hM := made_of (s := s) (p := p) (L := ([(v0, l0), (v1, l1), (v2, l2), (v3, l3)] : List Tm)) (by simp)
  rw [← hL.out] at hv hl hM
  have HL := Lib.hid hl
  have HM := Lib.hid hM
  clear hl hM
  cases hz : (checkA (padA s p L) != 0)
  case true =>
    have HMade : Hid (∀ v' W, Env W → TmRow W v' L → Calls Tryd.prog 19 #[.string ⟨s.toArray⟩, .string ⟨p.toArray⟩, v'] W fun e w' => e = .returned (.tuple #[.agg #[.string ⟨#[]⟩, .string ⟨#[]⟩, .int .i64 0, .bool false, .string ⟨#[]⟩, .bool false, .string ⟨#[]⟩, .bool false, .string ⟨#[]⟩, .bool false, .string ⟨#[]⟩], .int .i64 (checkA (padA s p L))]) ∧ Since W w') := by
      intro v' W hEW hrow
      have h := made_any s p v' L W hEW hrow hsM hpM HL.out (by rw [hLn.out]; decide)
      rw [HM.out, if_pos hz] at h
      exact h
    generalize checkA (padA s p L) = kk at *
    go_enter Tryd.func4, Tryd.ntmps4
    go_wp2_with (first
      | (go_at_call 18; refine (lives03_any _ hE).mono ?_; rintro e w1 ⟨rfl, hb⟩; replace hE := hE.next hb; replace hS := hS.trans hb; replace hv := hv.next hb)
      | (go_at_call 20; ((with_reducible refine (ownTm_any _ L _ hv (by rw [hLn.out]; decide)).mono ?_); rintro e w1 ⟨sv, rfl, hown, hb⟩; replace hE := hE.next hb; replace hS := hS.trans hb))
      | (go_at_call 19; ((with_reducible refine (HMade.out sv _ hE (tmRow_own hown rfl)).mono ?_); rintro e w2 ⟨rfl, hb⟩; replace hE := hE.next hb; replace hS := hS.trans hb)))
    go_ret
    exact ⟨rfl, hS.alloc _⟩
  case false =>
    obtain ⟨a', c', hv1, hv2, hv3, hv4⟩ := hv
    obtain ⟨b, o, ha, hcell⟩ := hv4 (by rw [hLn.out]; decide)
    injection hv1 with hv1 hv5 hv6
    subst hv1 hv6
    subst ha
    have hv : RowOf 2 tmC w (.slice (some ⟨b, o, none⟩) 4 c) L := ⟨_, _, by rw [hLn.out], hv2, hv3, hv4⟩
    have hc2 : 4 ≤ c := by rw [hLn.out] at hv2; exact hv2
    clear hv2 hv3 hv4 hv5 hcell
    have hz0 : checkA (padA s p L) = 0 := by simpa using hz
    obtain ⟨hps, hpp, hterm⟩ := (check_pad0 (by rw [hLn.out]; decide)).1 hz0
    have HT := Lib.hid hterm
    have HMade : Hid (∀ v' W, Env W → TmRow W v' L → Calls Tryd.prog 19 #[.string ⟨s.toArray⟩, .string ⟨p.toArray⟩, v'] W fun e w' => e = .returned (.tuple #[.agg #[.string ⟨s.toArray⟩, .string ⟨p.toArray⟩, .int .i64 4, .bool v0, .string ⟨l0.toArray⟩, .bool v1, .string ⟨l1.toArray⟩, .bool v2, .string ⟨l2.toArray⟩, .bool v3, .string ⟨l3.toArray⟩], .int .i64 0]) ∧ Since W w') := by
      intro v' W hEW hrow
      have h := made_any s p v' L W hEW hrow hsM hpM HL.out (by rw [hLn.out]; decide)
      rw [HM.out, if_neg (by rw [hz]; simp), hL.out] at h
      exact h
    have HCK : Hid (∀ W, Env W → Calls Tryd.prog 21 #[.agg #[.string ⟨s.toArray⟩, .string ⟨p.toArray⟩, .int .i64 4, .bool v0, .string ⟨l0.toArray⟩, .bool v1, .string ⟨l1.toArray⟩, .bool v2, .string ⟨l2.toArray⟩, .bool v3, .string ⟨l3.toArray⟩]] W fun e w' => e = .returned (.int .i64 0) ∧ Since W w') := by
      intro W hEW
      have hf : FitsA ((s, p, 4, (v0, l0), (v1, l1), (v2, l2), (v3, l3)) : Atm) := by
        refine ⟨hsM, hpM, fun t ht => ?_⟩
        have hl := HL.out
        rw [hL.out] at hl
        have ht' : t ∈ [(v0, l0), (v1, l1), (v2, l2), (v3, l3)] := ht
        simp only [List.mem_cons, List.not_mem_nil, or_false] at ht' hl
        rcases ht' with rfl | rfl | rfl | rfl <;> first | exact Nat.zero_le _ | (refine hl _ ?_; simp)
      have h := check_any s p 4 v0 v1 v2 v3 l0 l1 l2 l3 W hf hEW
      rw [hL.out] at hz0
      have e : checkA ((s, p, 4, (v0, l0), (v1, l1), (v2, l2), (v3, l3)) : Atm) = 0 := hz0
      rw [e] at h
      exact h
    have h0L : L.take 3 = ([(v0, l0), (v1, l1), (v2, l2)] : List Tm) := by rw [hL.out]; rfl
    have hz2 : checkA (padA s p (L.take 3)) = 0 := (check_pad0 (by rw [List.length_take]; omega)).2 ⟨hps, hpp, fun t ht => hterm t (List.mem_of_mem_take ht)⟩
    have HMade2 : Hid (∀ v' W, Env W → TmRow W v' (L.take 3) → Calls Tryd.prog 19 #[.string ⟨s.toArray⟩, .string ⟨p.toArray⟩, v'] W fun e w' => e = .returned (.tuple #[.agg #[.string ⟨s.toArray⟩, .string ⟨p.toArray⟩, .int .i64 3, .bool v0, .string ⟨l0.toArray⟩, .bool v1, .string ⟨l1.toArray⟩, .bool v2, .string ⟨l2.toArray⟩, .bool false, .string ⟨#[]⟩], .int .i64 0]) ∧ Since W w') := by
      intro v' W hEW hrow
      have h := made_any s p v' (L.take 3) W hEW hrow hsM hpM (fun t ht => HL.out t (List.mem_of_mem_take ht)) (by rw [List.length_take]; unfold maxLen; omega)
      rw [made_of (by rw [List.length_take]; omega), if_neg (by rw [hz2]; simp), h0L] at h
      exact h
    have hcut : ∀ W, (Instr.slice 36 (.slice (some ⟨b, o, none⟩) 4 c) none (some (.int .i64 3)) none).run Tryd.prog W = .ok (.slice (some ⟨b, o, none⟩) 3 c) W := fun W => run_cutTm (some ⟨b, o, none⟩) 4 c 3 (by decide) hc2 W
    clear hz2 h0L
    clear hz hz0 hps hpp hterm HM
    go_enter Tryd.func4, Tryd.ntmps4
    go_wp2_with fail
    refine (lives03_any _ hE).mono ?_
    rintro e w1 ⟨rfl, hb⟩
    replace hE := hE.next hb; replace hS := hS.trans hb; replace hv := hv.next hb
    clear hb
    go_wp2_with fail
    refine (ownTm_any _ L _ hv (by rw [hLn.out]; decide)).mono ?_
    rintro e w2 ⟨sv, rfl, hown, hb⟩
    replace hE := hE.next hb; replace hS := hS.trans hb; replace hv := hv.next hb
    clear hb
    go_wp2_with fail
    refine (HMade.out sv _ hE (tmRow_own hown rfl)).mono ?_
    rintro e w3 ⟨rfl, hb⟩
    replace hE := hE.next hb; replace hS := hS.trans hb; replace hv := hv.next hb
    have hg3 : w.heap.size ≤ w3.heap.size := hS.size
    clear hb hown HMade
    go_wp2_with fail
    have hal : Since w3 (w3.alloc (.cells #[.string ⟨s.toArray⟩, .string ⟨p.toArray⟩, .int .i64 4, .bool v0, .string ⟨l0.toArray⟩, .bool v1, .string ⟨l1.toArray⟩, .bool v2, .string ⟨l2.toArray⟩, .bool v3, .string ⟨l3.toArray⟩] 26)) := (Since.refl _).alloc _
    refine (HCK.out _ (hE.next hal)).mono ?_
    rintro e w4 ⟨rfl, hb⟩
    have hblk : w4.heap[w3.heap.size]? = some (.cells #[.string ⟨s.toArray⟩, .string ⟨p.toArray⟩, .int .i64 4, .bool v0, .string ⟨l0.toArray⟩, .bool v1, .string ⟨l1.toArray⟩, .bool v2, .string ⟨l2.toArray⟩, .bool v3, .string ⟨l3.toArray⟩] 26 (0, 0)) := (Below.block hb w3.heap.size (by rw [World.size_alloc]; omega)).trans (heap_alloc_new _ _)
    have hbx := (box_new w3 ((s, p, 4, (v0, l0), (v1, l1), (v2, l2), (v3, l3)) : Atm) 26).next hb
    obtain ⟨a_c0, a_c1, a_c2, a_c3, a_c4, a_c5, a_c6, a_c7, a_c8, a_c9, a_c10⟩ := hbx.all
    replace hS := (hS.trans hal).trans hb
    have hSx := hal.trans hb
    replace hE := (hE.next hal).next hb; replace hv := (hv.next hal).next hb
    have HBLK := Lib.hid hblk
    clear hb hal HCK hSx hblk
    go_wp2_with fail
    have hargs : Hid (∀ k, (h : k < L.length) → w4.cell? ⟨w3.heap.size, 3 + k * 2, none⟩ = some (.bool L[k].1) ∧ w4.cell? ⟨w3.heap.size, 3 + k * 2 + 1, none⟩ = some (.string ⟨L[k].2.toArray⟩)) := by
      intro k h
      have h4 : k < 4 := by rw [hLn.out] at h; omega
      have e : (argsL (padA s p L))[k]'(by exact h4) = L[k] := pad_args (by rw [hLn.out]; decide) k h (by exact h4)
      have e2 : argsL (padA s p L) = argsL ((s, p, 4, (v0, l0), (v1, l1), (v2, l2), (v3, l3)) : Atm) := by rw [hL.out]; rfl
      have h5 : ∀ (M : List Tm) (_ : M = argsL (padA s p L)) (h : k < M.length), M[k] = L[k] := by
        rintro M rfl h; exact e
      have h6 := hbx.args.2 k (by exact h4)
      have h7 := h5 _ e2.symm (by exact h4)
      exact ⟨h6.1.trans (by rw [h7]), h6.2.trans (by rw [h7])⟩
    have hvT := Lib.hid (tmRow_at (tmRow_of hv (.inr (by rw [hLn.out]; decide))))
    go_loopw [9] (fun i wr => ∃ k : Nat, k ≤ 4 ∧ i = .int .i64 k ∧ Since w4 wr) (fun i _ => 4 - (intOf i).toNat)
    case atStart => exact ⟨0, by omega, rfl, Since.refl _⟩
    case round =>
      obtain ⟨k, hk, rfl, hSr⟩ := hrel
      by_cases hlt : k < 4
      · have hkL : k < L.length := by rw [hLn.out]; exact hlt
        obtain ⟨d3, d4⟩ := hargs.out k hkL
        obtain ⟨f1, f2⟩ := hvT.out k hkL
        replace d3 := hSr.cell d3
        replace d4 := hSr.cell d4
        replace f1 := hSr.cell f1
        replace f2 := hSr.cell f2
        have hEr := hE.next hSr
        have ht := HT.out _ (List.getElem_mem hkL)
        have hl300 := HL.out _ (List.getElem_mem hkL)
        have hk4 : (k : Int) < 4 := by omega
        have hk0 : (0 : Int) ≤ (k : Int) := by omega
        have hkn : (k : Int) < 4 := by omega
        generalize L[k] = t at *
        obtain ⟨tv, tl⟩ := t
        have HTM : Hid (∀ W, Env W → Calls Tryd.prog 22 #[.agg #[.bool tv, .string ⟨tl.toArray⟩]] W fun e w' => e = .returned (.bool true) ∧ Since W w') := by
          intro W hW
          have h := term_any tv tl W hl300 hW
          rw [ht] at h; exact h
        go_wp2_with fail
        go_region_held3 (fun w' => w'.cell? ⟨w3.heap.size, 3 + k * 2, none⟩ = some (.bool tv) ∧ w'.cell? ⟨w3.heap.size, 3 + k * 2 + 1, none⟩ = some (.string ⟨tl.toArray⟩) ∧ w'.cell? ⟨b, o + k * 2, none⟩ = some (.bool tv) ∧ w'.cell? ⟨b, o + k * 2 + 1, none⟩ = some (.string ⟨tl.toArray⟩) ∧ Env w')
          (first | (refine ⟨?_, ?_, ?_, ?_, ?_⟩ <;> assumption) | (go_split_ands; refine ⟨?_, ?_, ?_, ?_, ?_⟩ <;> first | (refine Since.cell hb ?_; assumption) | (refine Env.next ?_ hb; assumption)))
          (first | (go_at_call 22; ((with_reducible refine (HTM.out _ (by go_split_ands; assumption)).mono ?_); rintro e w5 ⟨rfl, hb⟩)))
        go_wp2_with fail
        go_roundw
        case rel => exact ⟨k + 1, by omega, by go_num, hSr.drew.trans hb⟩
        case measure => simp [intOf]; omega
      · obtain rfl : k = 4 := by omega
        replace hE := hE.next hSr
        replace hS := hS.trans hSr
        replace hv := hv.next hSr
        have hblk : wr.heap[w3.heap.size]? = some (.cells #[.string ⟨s.toArray⟩, .string ⟨p.toArray⟩, .int .i64 4, .bool v0, .string ⟨l0.toArray⟩, .bool v1, .string ⟨l1.toArray⟩, .bool v2, .string ⟨l2.toArray⟩, .bool v3, .string ⟨l3.toArray⟩] 26 (0, 0)) := (Below.block hSr w3.heap.size (World.block_lt_of_cell? _ _ a_c0)).trans HBLK.out
        have HB2 := Lib.hid hblk
        clear hargs hvT HT HBLK hlt hk hblk hSr hbx
        clear a_c0 a_c1 a_c2 a_c3 a_c4 a_c5 a_c6 a_c7 a_c8 a_c9 a_c10
        go_wp2_with fail
        refine (ownTm_any _ (L.take 3) _ (rowOf_cut hv 3 (by decide)) (by rw [List.length_take]; omega)).mono ?_
        rintro e w6 ⟨sv2, rfl, hown, hb⟩
        replace hE := hE.next hb
        have hrow2 := tmRow_own hown rfl
        go_wp2_with fail
        refine (HMade2.out sv2 _ hE hrow2).mono ?_
        rintro e w7 ⟨rfl, hb2⟩
        replace hS := (hS.trans hb).trans hb2
        have hlt3 : w3.heap.size < wr.heap.size := Blk_lt HB2.out
        have hblk7 : w7.heap[w3.heap.size]? = some (.cells #[.string ⟨s.toArray⟩, .string ⟨p.toArray⟩, .int .i64 4, .bool v0, .string ⟨l0.toArray⟩, .bool v1, .string ⟨l1.toArray⟩, .bool v2, .string ⟨l2.toArray⟩, .bool v3, .string ⟨l3.toArray⟩] 26 (0, 0)) := ((Below.block hb2 w3.heap.size (Nat.lt_of_lt_of_le hlt3 hb.size)).trans (Below.block hb w3.heap.size hlt3)).trans HB2.out
        have hbx7 : Box w7 w3.heap.size ((s, p, 4, (v0, l0), (v1, l1), (v2, l2), (v3, l3)) : Atm) := box_of_heap hblk7
        obtain ⟨a_c0, a_c1, a_c2, a_c3, a_c4, a_c5, a_c6, a_c7, a_c8, a_c9, a_c10⟩ := hbx7.all
        have z2 := frozen_of hblk7 2
        have z3 := frozen_of hblk7 9
        have z4 := frozen_of hblk7 10
        have hlt7 : w3.heap.size < w7.heap.size := World.block_lt_of_cell? _ _ a_c0
        have HB7 := Lib.hid hblk7
        clear hblk7 hbx7 HB2 hv hown hrow2 hb hb2 HMade2 hE hcut
        go_wp2_with fail
        go_ret
        refine ⟨rfl, ?_⟩
        repeat (first | exact hS | refine Since.setCell ?_ hg3 _ | refine Since.alloc ?_ _)

set_option maxHeartbeats 1000000 in
set_option maxRecDepth 100000 in
theorem madeL_out (s p : List UInt8) (a : Option Addr) (n c : Nat) (w : World) (hE : Env w) (hs : s.length ≤ maxLen) (hp : p.length ≤ maxLen) (hn : n ≤ maxLen) (h : 300 < s.length ∨ (s.length ≤ 300 ∧ (300 < p.length ∨ (p.length ≤ 300 ∧ 4 < n)))) :
    Calls Tryd.prog 4 #[.string ⟨s.toArray⟩, .string ⟨p.toArray⟩, .slice a n c] w fun e w' => e = .returned (.bool true) ∧ Since w w' := by
  have hS := Since.refl w
  unfold maxLen at hs hp hn
  rcases h with h | ⟨h1, h | ⟨h2, h⟩⟩
  · have g1 : decide ((300 : Int) < (s.length : Int)) = true := decide_eq_true (by omega)
    go_enter Tryd.func4, Tryd.ntmps4
    go_wp2_with (go_at_call 18; refine (lives03_any _ hE).mono ?_; rintro e w1 ⟨rfl, hb⟩; replace hS := hS.trans hb)
    go_ret
    exact ⟨rfl, hS⟩
  · have g1 : decide ((300 : Int) < (s.length : Int)) = false := decide_eq_false (by omega)
    have g2 : decide ((300 : Int) < (p.length : Int)) = true := decide_eq_true (by omega)
    go_enter Tryd.func4, Tryd.ntmps4
    go_wp2_with (go_at_call 18; refine (lives03_any _ hE).mono ?_; rintro e w1 ⟨rfl, hb⟩; replace hS := hS.trans hb)
    go_ret
    exact ⟨rfl, hS⟩
  · have g1 : decide ((300 : Int) < (s.length : Int)) = false := decide_eq_false (by omega)
    have g2 : decide ((300 : Int) < (p.length : Int)) = false := decide_eq_false (by omega)
    have g3 : decide ((4 : Int) < (n : Int)) = true := decide_eq_true (by omega)
    go_enter Tryd.func4, Tryd.ntmps4
    go_wp2_with (go_at_call 18; refine (lives03_any _ hE).mono ?_; rintro e w1 ⟨rfl, hb⟩; replace hS := hS.trans hb)
    go_ret
    exact ⟨rfl, hS⟩

theorem madeL_walk (s p : List UInt8) (v : Value) (L : List Tm) (w : World) (hE : Env w) (hs : s.length ≤ maxLen) (hp : p.length ≤ maxLen) (hv : RowOf 2 tmC w v L) (hl : ∀ t ∈ L, t.2.length ≤ maxLen) :
    Calls Tryd.prog 4 #[.string ⟨s.toArray⟩, .string ⟨p.toArray⟩, v] w fun e w' => e = .returned (.bool true) ∧ Since w w' := by
  obtain ⟨a, c, rfl⟩ := hv.form
  have hn := hv.len
  by_cases h1 : s.length ≤ 300
  · by_cases h2 : p.length ≤ 300
    · by_cases h3 : L.length ≤ 4
      · match L, h3, hv, hl with
        | [], _, hv, hl => exact madeL_0 s p a c w hE h1 h2 hv hl
        | [(v0, l0)], _, hv, hl => exact madeL_1 s p v0 l0 a c w hE h1 h2 hv hl
        | [(v0, l0), (v1, l1)], _, hv, hl => exact madeL_2 s p v0 v1 l0 l1 a c w hE h1 h2 hv hl
        | [(v0, l0), (v1, l1), (v2, l2)], _, hv, hl => exact madeL_3 s p v0 v1 v2 l0 l1 l2 a c w hE h1 h2 hv hl
        | [(v0, l0), (v1, l1), (v2, l2), (v3, l3)], _, hv, hl => exact madeL_4 s p v0 v1 v2 v3 l0 l1 l2 l3 a c w hE h1 h2 hv hl
      · exact madeL_out s p a L.length c w hE hs hp hn (.inr ⟨h1, .inr ⟨h2, by omega⟩⟩)
    · exact madeL_out s p a L.length c w hE hs hp hn (.inr ⟨h1, .inl (by omega)⟩)
  · exact madeL_out s p a L.length c w hE hs hp hn (.inl (by omega))
end Go.Proofs.YtapkafdlbocmmaaDoor
