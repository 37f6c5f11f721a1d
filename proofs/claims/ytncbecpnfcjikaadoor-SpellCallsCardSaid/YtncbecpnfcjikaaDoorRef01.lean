/- The reference of layer 1: its functions answer as those of package spell do, at every string. -/
import Derived.Test.YtncbecpnfcjikaaDoorSpell
namespace Go.Proofs.YtncbecpnfcjikaaDoor
open Go.RowKit

set_option maxHeartbeats 400000 in
theorem rSmall_any (n : Int) (w : World) :
    Calls Tryd.prog 33 #[.int .u8 n] w fun e w' => e = .returned (.bool (smallB n)) ∧ w = w' := by
  go_enter Tryd.func33, Tryd.ntmps33
  go_wp2
  all_goals (go_ret; exact ⟨ret_bool (by simp [smallB]; omega), rfl⟩)
set_option maxHeartbeats 400000 in
theorem rGreat_any (n : Int) (w : World) :
    Calls Tryd.prog 35 #[.int .u8 n] w fun e w' => e = .returned (.bool (greatB n)) ∧ w = w' := by
  go_enter Tryd.func35, Tryd.ntmps35
  go_wp2
  all_goals (go_ret; exact ⟨ret_bool (by simp [greatB]; omega), rfl⟩)
set_option maxHeartbeats 400000 in
theorem rDigit_any (n : Int) (w : World) :
    Calls Tryd.prog 36 #[.int .u8 n] w fun e w' => e = .returned (.bool (digitB n)) ∧ w = w' := by
  go_enter Tryd.func36, Tryd.ntmps36
  go_wp2
  all_goals (go_ret; exact ⟨ret_bool (by simp [digitB]; omega), rfl⟩)

/-- ref01.constant, by bytes. -/
def rconB : List UInt8 → Bool
  | [] => false
  | c :: r => decide ((c :: r).length ≤ 255) && !((c.toNat : Int) == 95) && (c :: r).all fun x => lowB x.toNat
theorem rconB_long {l : List UInt8} (h : ¬ l.length ≤ 255) : rconB l = false := by
  cases l with
  | nil => rfl
  | cons c r => simp only [rconB, decide_eq_false h, Bool.false_and]
theorem rconB_line {l : List UInt8} (h0 : 0 < l.length) (hc : ((l[0].toNat : Int) == 95) = true) : rconB l = false := by
  cases l with
  | nil => rfl
  | cons c r =>
    have : ((c.toNat : Int) == 95) = true := hc
    simp only [rconB, this, Bool.not_true, Bool.and_false, Bool.false_and]
theorem rconB_all {l : List UInt8} (h0 : 0 < l.length) (h1 : l.length ≤ 255) (hc : ((l[0].toNat : Int) == 95) = false) : rconB l = (l.drop 0).all fun x => lowB x.toNat := by
  cases l with
  | nil => simp at h0
  | cons c r =>
    have : ((c.toNat : Int) == 95) = false := hc
    simp only [rconB, this, decide_eq_true h1, Bool.not_false, Bool.and_true, Bool.true_and, List.drop_zero]

theorem low_yes {n : Int} (h : lowB n = true) : smallB n = true ∨ (smallB n = false ∧ digitB n = true) ∨ (smallB n = false ∧ digitB n = false ∧ (n == 95) = true ∧ (n != 95) = false) := by
  unfold lowB at h
  cases hs : smallB n <;> cases hd : digitB n <;> simp_all
theorem low_no {n : Int} (h : lowB n = false) : smallB n = false ∧ digitB n = false ∧ (n == 95) = false ∧ (n != 95) = true := by
  unfold lowB at h
  cases hs : smallB n <;> cases hd : digitB n <;> simp_all

set_option maxHeartbeats 400000 in
theorem rcon_any (l : List UInt8) (w : World) (hl : l.length ≤ maxLen) :
    Calls Tryd.prog 34 #[.string ⟨l.toArray⟩] w fun e w' => e = .returned (.bool (rconB l)) ∧ w = w' := by
  unfold maxLen at hl
  by_cases h0 : 0 < l.length
  · by_cases h1 : (l.length : Int) ≤ 255
    · cases hc : (((((ByteArray.mk l.toArray)[0]'h0).toNat : Int)) == 95)
      · have hres : Hid (rconB l = (l.drop 0).all fun x => lowB x.toNat) := by
          exact rconB_all h0 (by omega) hc
        go_enter Tryd.func34, Tryd.ntmps34
        go_wp2_with fail
        clear hc
        go_loop [3] (fun i => ∃ k : Nat, k ≤ l.length ∧ i = .int .i64 k ∧ Hid (rconB l = (l.drop k).all fun x => lowB x.toNat)) (fun i => l.length - (intOf i).toNat)
        case atStart => exact ⟨0, Nat.zero_le _, rfl, hres⟩
        case round =>
          clear hres
          obtain ⟨k, hk, rfl, hres⟩ := hrel
          by_cases hlt : k < l.length
          · cases hm : lowB ((ByteArray.mk l.toArray)[k]'hlt).toNat
            · obtain ⟨m1, m2, m3, m4⟩ := low_no hm
              go_wp2_with (first | (go_at_call 33; refine (rSmall_any _ _).mono ?_; rintro e w' ⟨rfl, rfl⟩) | (go_at_call 36; refine (rDigit_any _ _).mono ?_; rintro e w' ⟨rfl, rfl⟩))
              go_ret
              refine ⟨ret_bool ?_, rfl⟩
              rw [hres.out, all_drop_step hlt, ← at_bytes l k hlt hlt, hm, Bool.false_and]
            · have hres' : Hid (rconB l = (l.drop (k + 1)).all fun x => lowB x.toNat) := by
                have := hres.out
                rw [all_drop_step hlt, ← at_bytes l k hlt hlt, hm, Bool.true_and] at this
                exact this
              rcases low_yes hm with m1 | ⟨m1, m2⟩ | ⟨m1, m2, m3, m4⟩
              all_goals
                go_wp2_with (first | (go_at_call 33; refine (rSmall_any _ _).mono ?_; rintro e w' ⟨rfl, rfl⟩) | (go_at_call 36; refine (rDigit_any _ _).mono ?_; rintro e w' ⟨rfl, rfl⟩))
                go_round
                case rel => exact ⟨k + 1, by omega, by go_num, hres'⟩
                case measure => simp [intOf]; omega
          · go_wp2
            go_ret
            refine ⟨ret_bool ?_, rfl⟩
            rw [hres.out, all_drop_end hlt]
      · have hc2 : (((ByteArray.mk l.toArray)[0]'h0).toNat : Int) = 95 := by simpa using hc
        go_enter Tryd.func34, Tryd.ntmps34
        go_wp2_with fail
        go_ret
        exact ⟨ret_bool (rconB_line h0 hc).symm, rfl⟩
    · go_enter Tryd.func34, Tryd.ntmps34
      go_wp2
      go_ret
      exact ⟨ret_bool (rconB_long (by omega)).symm, rfl⟩
  · go_enter Tryd.func34, Tryd.ntmps34
    go_wp2
    go_ret
    have hn : l = [] := List.eq_nil_of_length_eq_zero (by omega)
    exact ⟨ret_bool (by rw [hn]; rfl), rfl⟩

theorem rwords_any (w : World) :
    Calls Tryd.prog 23 #[] w fun e w' => e = .returned (.slice (some ⟨w.heap.size, 0, none⟩) 8 8) ∧ w.alloc wordsO = w' := by
  go_enter Tryd.func23, Tryd.ntmps23
  go_wp2
  go_ret
  exact ⟨rfl, rfl⟩

theorem cell_words' (w : World) (k : Nat) (hk : k < wordsL.length) : (w.alloc wordsO).cell? ⟨w.heap.size, k, none⟩ = some (.string ⟨wordsL[k].toArray⟩) := by
  rw [wordsO, World.cell?_alloc_new]
  simp [hk]

set_option maxHeartbeats 400000 in
theorem rreserved_any (l : List UInt8) (w : World) :
    Calls Tryd.prog 21 #[.string ⟨l.toArray⟩] w fun e w' => e = .returned (.bool (reservedB l)) ∧ Since w w' := by
  go_enter Tryd.func21, Tryd.ntmps21
  go_wp2_with (go_at_call 23; refine (rwords_any _).mono ?_; rintro e w' ⟨rfl, rfl⟩)
  have hlen : wordsL.length = 8 := rfl
  have HL := Lib.hid hlen
  clear hlen
  go_loop [4] (fun i => ∃ k : Nat, k ≤ 8 ∧ i = .int .i64 k ∧ Hid (reservedB l = (wordsL.drop k).contains l)) (fun i => 8 - (intOf i).toNat)
  case atStart => exact ⟨0, Nat.zero_le _, rfl, rfl⟩
  case round =>
    obtain ⟨k, hk, rfl, hres⟩ := hrel
    by_cases hlt : k < 8
    · have hw : k < wordsL.length := by rw [HL.out]; exact hlt
      have hc := cell_words' w k hw
      have hd := List.drop_eq_getElem_cons hw
      have HD := Lib.hid hd
      clear hd
      generalize wordsL[k] = x at *
      cases he : (x == l)
      · go_wp2
        go_round
        case rel =>
          refine ⟨k + 1, by omega, by go_num, ?_⟩
          have := hres.out
          rw [HD.out, List.contains_cons, show (l == x) = false by rw [Bool.beq_comm]; exact he, Bool.false_or] at this
          exact this
        case measure => simp [intOf]; omega
      · have hx : x = l := by simpa using he
        subst hx
        go_wp2
        go_ret
        refine ⟨ret_bool ?_, (Since.refl _).alloc _⟩
        rw [hres.out, HD.out, List.contains_cons, he, Bool.true_or]
    · go_wp2
      go_ret
      refine ⟨ret_bool ?_, (Since.refl _).alloc _⟩
      rw [hres.out, List.drop_eq_nil_of_le (by rw [HL.out]; omega)]
      rfl

def rconstantB (l : List UInt8) : Bool := rconB l && !reservedB l
def rprincipalB (l : List UInt8) : Bool := rconstantB l && smallB (l.getD 0 0).toNat

theorem rconstant_any (l : List UInt8) (w : World) (hl : l.length ≤ maxLen) :
    Calls Tryd.prog 19 #[.string ⟨l.toArray⟩] w fun e w' => e = .returned (.bool (rconstantB l)) ∧ Since w w' := by
  have HS := Lib.hid (rcon_any l w hl)
  have HR := Lib.hid (rreserved_any l w)
  cases h : rconB l
  · go_enter Tryd.func19, Tryd.ntmps19
    go_wp2_with (go_at_call 34; refine HS.out.mono ?_; rintro e w' ⟨rfl, rfl⟩)
    go_ret
    exact ⟨ret_bool (by rw [rconstantB, h, Bool.false_and]), Since.refl _⟩
  · go_enter Tryd.func19, Tryd.ntmps19
    go_wp2_with (first | (go_at_call 34; refine HS.out.mono ?_; rintro e w' ⟨rfl, rfl⟩) | (go_at_call 21; refine HR.out.mono ?_; rintro e w' ⟨rfl, hb⟩))
    go_ret
    exact ⟨ret_bool (by rw [rconstantB, h, Bool.true_and]), hb⟩

theorem rconstantB_pos {l : List UInt8} (h : rconstantB l = true) : 0 < l.length := by
  cases l with
  | nil => simp [rconstantB, rconB] at h
  | cons c r => simp

theorem rprincipal_any (l : List UInt8) (w : World) (hl : l.length ≤ maxLen) :
    Calls Tryd.prog 17 #[.string ⟨l.toArray⟩] w fun e w' => e = .returned (.bool (rprincipalB l)) ∧ Since w w' := by
  have HS := Lib.hid (rconstant_any l w hl)
  cases h : rconstantB l
  · go_enter Tryd.func17, Tryd.ntmps17
    go_wp2_with (go_at_call 19; refine HS.out.mono ?_; rintro e w' ⟨rfl, hb⟩)
    go_ret
    exact ⟨ret_bool (by rw [rprincipalB, h, Bool.false_and]), hb⟩
  · have h0 := rconstantB_pos h
    have hg : Hid (l.getD 0 0 = (ByteArray.mk l.toArray)[0]'h0) := by
      have : l.getD 0 0 = l[0] := by simp [h0]
      exact this
    go_enter Tryd.func17, Tryd.ntmps17
    go_wp2_with (first | (go_at_call 19; refine HS.out.mono ?_; rintro e w' ⟨rfl, hb⟩) | (go_at_call 33; refine (rSmall_any _ _).mono ?_; rintro e w' ⟨rfl, rfl⟩))
    go_ret
    exact ⟨ret_bool (by rw [rprincipalB, h, Bool.true_and, hg.out]), hb⟩

theorem rpredicate_any (l : List UInt8) (w : World) (hl : l.length ≤ maxLen) :
    Calls Tryd.prog 18 #[.string ⟨l.toArray⟩] w fun e w' => e = .returned (.bool (rprincipalB l)) ∧ Since w w' := by
  have HS := Lib.hid (rprincipal_any l w hl)
  go_enter Tryd.func18, Tryd.ntmps18
  go_wp2_with (go_at_call 17; refine HS.out.mono ?_; rintro e w' ⟨rfl, hb⟩)
  go_ret
  exact ⟨rfl, hb⟩

theorem var_yes {n : Int} (h : varB n = true) : smallB n = true ∨ (smallB n = false ∧ greatB n = true) ∨ (smallB n = false ∧ greatB n = false ∧ digitB n = true) ∨ (smallB n = false ∧ greatB n = false ∧ digitB n = false ∧ (n != 95) = false) := by
  unfold varB lowB at h
  cases hs : smallB n <;> cases hd : digitB n <;> cases hg : greatB n <;> simp_all
theorem var_no {n : Int} (h : varB n = false) : smallB n = false ∧ greatB n = false ∧ digitB n = false ∧ (n != 95) = true := by
  unfold varB lowB at h
  cases hs : smallB n <;> cases hd : digitB n <;> cases hg : greatB n <;> simp_all
theorem var_great {n : Int} (h : greatB n = true) : varB n = true := by rw [varB, h, Bool.or_true]

set_option maxHeartbeats 400000 in
theorem rvariable_any (l : List UInt8) (w : World) (hl : l.length ≤ maxLen) :
    Calls Tryd.prog 20 #[.string ⟨l.toArray⟩] w fun e w' => e = .returned (.bool (variableB l)) ∧ w = w' := by
  unfold maxLen at hl
  by_cases h0 : 0 < l.length
  · by_cases h1 : (l.length : Int) ≤ 255
    · cases hc : greatB ((ByteArray.mk l.toArray)[0]'h0).toNat
      · go_enter Tryd.func20, Tryd.ntmps20
        go_wp2_with (first | (go_at_call 33; refine (rSmall_any _ _).mono ?_; rintro e w' ⟨rfl, rfl⟩) | (go_at_call 36; refine (rDigit_any _ _).mono ?_; rintro e w' ⟨rfl, rfl⟩) | (go_at_call 35; refine (rGreat_any _ _).mono ?_; rintro e w' ⟨rfl, rfl⟩))
        go_ret
        exact ⟨ret_bool (spelledB_first h0 hc).symm, rfl⟩
      · have hres : Hid (variableB l = (l.drop 0).all fun x => varB x.toNat) := by
          have := spelledB_rest (m := varB) h0 (by omega) hc
          show spelledB greatB varB l = _
          rw [this, all_drop_step h0, ← at_bytes l 0 h0 h0, var_great hc, Bool.true_and]
        go_enter Tryd.func20, Tryd.ntmps20
        go_wp2_with (first | (go_at_call 33; refine (rSmall_any _ _).mono ?_; rintro e w' ⟨rfl, rfl⟩) | (go_at_call 36; refine (rDigit_any _ _).mono ?_; rintro e w' ⟨rfl, rfl⟩) | (go_at_call 35; refine (rGreat_any _ _).mono ?_; rintro e w' ⟨rfl, rfl⟩))
        clear hc
        go_loop [3] (fun i => ∃ k : Nat, k ≤ l.length ∧ i = .int .i64 k ∧ Hid (variableB l = (l.drop k).all fun x => varB x.toNat)) (fun i => l.length - (intOf i).toNat)
        case atStart => exact ⟨0, Nat.zero_le _, rfl, hres⟩
        case round =>
          clear hres
          obtain ⟨k, hk, rfl, hres⟩ := hrel
          by_cases hlt : k < l.length
          · cases hm : varB ((ByteArray.mk l.toArray)[k]'hlt).toNat
            · obtain ⟨m1, m2, m3, m4⟩ := var_no hm
              go_wp2_with (first | (go_at_call 33; refine (rSmall_any _ _).mono ?_; rintro e w' ⟨rfl, rfl⟩) | (go_at_call 36; refine (rDigit_any _ _).mono ?_; rintro e w' ⟨rfl, rfl⟩) | (go_at_call 35; refine (rGreat_any _ _).mono ?_; rintro e w' ⟨rfl, rfl⟩))
              go_ret
              refine ⟨ret_bool ?_, rfl⟩
              rw [hres.out, all_drop_step hlt, ← at_bytes l k hlt hlt, hm, Bool.false_and]
            · have hres' : Hid (variableB l = (l.drop (k + 1)).all fun x => varB x.toNat) := by
                have := hres.out
                rw [all_drop_step hlt, ← at_bytes l k hlt hlt, hm, Bool.true_and] at this
                exact this
              rcases var_yes hm with m1 | ⟨m1, m2⟩ | ⟨m1, m2, m3⟩ | ⟨m1, m2, m3, m4⟩
              all_goals
                go_wp2_with (first | (go_at_call 33; refine (rSmall_any _ _).mono ?_; rintro e w' ⟨rfl, rfl⟩) | (go_at_call 36; refine (rDigit_any _ _).mono ?_; rintro e w' ⟨rfl, rfl⟩) | (go_at_call 35; refine (rGreat_any _ _).mono ?_; rintro e w' ⟨rfl, rfl⟩))
                go_round
                case rel => exact ⟨k + 1, by omega, by go_num, hres'⟩
                case measure => simp [intOf]; omega
          · go_wp2
            go_ret
            refine ⟨ret_bool ?_, rfl⟩
            rw [hres.out, all_drop_end hlt]
    · go_enter Tryd.func20, Tryd.ntmps20
      go_wp2
      go_ret
      exact ⟨ret_bool (spelledB_long (by omega)).symm, rfl⟩
  · go_enter Tryd.func20, Tryd.ntmps20
    go_wp2
    go_ret
    have hn : l = [] := List.eq_nil_of_length_eq_zero (by omega)
    exact ⟨ret_bool (by rw [hn]; rfl), rfl⟩
end Go.Proofs.YtncbecpnfcjikaaDoor
