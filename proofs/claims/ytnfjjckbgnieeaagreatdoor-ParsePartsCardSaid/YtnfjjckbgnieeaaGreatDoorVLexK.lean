/- Package lexer: kind, run; strings.Cut at a line end: what they answer. -/
import Derived.Test.YtnfjjckbgnieeaaGreatDoorVLexQ
import Derived.Test.YtnfjjckbgnieeaaGreatDoorVShelf
namespace Go.Proofs.YtnfjjckbgnieeaaGreatDoor
open Go.RowKit

theorem ix_blank_all : ((List.range 256).all fun x => decide (0 ≤ Lib.indexByte [32, 10, 9, 13] x.toUInt8) == blankB (x : Int)) = true := by decide +kernel
theorem ix_sign_all : ((List.range 256).all fun x => decide (0 ≤ Lib.indexByte [40, 41, 44, 46, 58, 47, 63] x.toUInt8) == signB (x : Int)) = true := by decide +kernel
theorem ix_blank {n : Int} (h0 : 0 ≤ n) (h : n < 256) : decide (0 ≤ Lib.indexByte [32, 10, 9, 13] n.toNat.toUInt8) = blankB n := by
  have := List.all_eq_true.1 ix_blank_all n.toNat (List.mem_range.2 (by omega))
  have e : ((n.toNat : Nat) : Int) = n := by omega
  rw [e] at this
  exact eq_of_beq this
theorem ix_sign {n : Int} (h0 : 0 ≤ n) (h : n < 256) : decide (0 ≤ Lib.indexByte [40, 41, 44, 46, 58, 47, 63] n.toNat.toUInt8) = signB n := by
  have := List.all_eq_true.1 ix_sign_all n.toNat (List.mem_range.2 (by omega))
  have e : ((n.toNat : Nat) : Int) = n := by omega
  rw [e] at this
  exact eq_of_beq this
set_option maxHeartbeats 2000000 in
theorem kind_any (n : Int) (w : World) (h0 : 0 ≤ n) (h : n < 256) :
    Calls Tryz.prog 99 #[.int .u8 n] w fun e w' => e = .returned (.int .i64 (kindI n)) ∧ w = w' := by
  obtain ⟨vb, hvb⟩ : ∃ v, Hid (v = Lib.indexByte [32, 10, 9, 13] n.toNat.toUInt8) := ⟨_, rfl⟩
  obtain ⟨vs, hvs⟩ : ∃ v, Hid (v = Lib.indexByte [40, 41, 44, 46, 58, 47, 63] n.toNat.toUInt8) := ⟨_, rfl⟩
  have tb : decide (0 ≤ vb) = blankB n := by rw [hvb.out]; exact ix_blank h0 h
  have ts : decide (0 ≤ vs) = signB n := by rw [hvs.out]; exact ix_sign h0 h
  have HB : Hid (∀ W, Calls Tryz.prog 114 #[.string ⟨#[32, 10, 9, 13]⟩, .int .u8 n] W fun e w' => e = .returned (.int .i64 vb) ∧ W = w') := by
    intro W; rw [hvb.out]; exact (Tryz.strings_IndexByte ⟨#[32, 10, 9, 13]⟩ n W).mono fun _ _ h => ⟨h.1, h.2.symm⟩
  have HS : Hid (∀ W, Calls Tryz.prog 114 #[.string ⟨#[40, 41, 44, 46, 58, 47, 63]⟩, .int .u8 n] W fun e w' => e = .returned (.int .i64 vs) ∧ W = w') := by
    intro W; rw [hvs.out]; exact (Tryz.strings_IndexByte ⟨#[40, 41, 44, 46, 58, 47, 63]⟩ n W).mono fun _ _ h => ⟨h.1, h.2.symm⟩
  obtain ⟨R, hR⟩ : ∃ R, Hid (R = kindI n) := ⟨_, rfl⟩
  rw [← hR.out]
  by_cases c1 : 97 ≤ n ∧ n ≤ 122
  · obtain ⟨c1, c2⟩ := c1
    have hRv : R = 3 := by rw [hR.out, kindI, if_pos (by simp [smallB]; omega)]
    subst hRv
    go_enter Tryz.func99, Tryz.ntmps99
    go_wp2_with fail
    go_ret
    exact ⟨rfl, rfl⟩
  have hs : smallB n = false := by rw [Bool.eq_false_iff]; simp [smallB]; omega
  by_cases c2 : 65 ≤ n ∧ n ≤ 90
  · obtain ⟨c2, c3⟩ := c2
    have hRv : R = 4 := by rw [hR.out, kindI, if_neg (by rw [hs]; simp), if_pos (by simp [greatB]; omega)]
    subst hRv
    clear c1
    have c4 : n < 97 := by omega
    go_enter Tryz.func99, Tryz.ntmps99
    go_wp2_with fail
    go_ret
    exact ⟨rfl, rfl⟩
  have hg : greatB n = false := by rw [Bool.eq_false_iff]; simp [greatB]; omega
  by_cases c3 : 48 ≤ n ∧ n ≤ 57
  · obtain ⟨c3, c4⟩ := c3
    have hRv : R = 5 := by rw [hR.out, kindI, if_neg (by rw [hs]; simp), if_neg (by rw [hg]; simp), if_pos (by simp [digitB]; omega)]
    subst hRv
    clear c1 c2
    have c5 : n < 65 := by omega
    have c6 : n < 97 := by omega
    go_enter Tryz.func99, Tryz.ntmps99
    go_wp2_with fail
    go_ret
    exact ⟨rfl, rfl⟩
  have hd : digitB n = false := by rw [Bool.eq_false_iff]; simp [digitB]; omega
  have hK : R = if n == 95 then 6 else if n == 37 then 2 else if blankB n then 1 else if signB n then 7 else 0 := by
    rw [hR.out, kindI, if_neg (by rw [hs]; simp), if_neg (by rw [hg]; simp), if_neg (by rw [hd]; simp)]
  have HK := Lib.hid hK
  clear hs hg hd hK hvb hvs hR
  have hj : n < 48 ∨ (57 < n ∧ n < 65) ∨ (90 < n ∧ n < 97) ∨ 122 < n := by omega
  clear c1 c2 c3
  by_cases e1 : n = 95
  · subst e1
    have hk : R = 6 := HK.out
    subst hk
    clear HK tb ts hj
    go_enter Tryz.func99, Tryz.ntmps99
    go_wp2_with fail
    go_ret
    exact ⟨rfl, rfl⟩
  by_cases e2 : n = 37
  · subst e2
    have hk : R = 2 := HK.out
    subst hk
    clear HK tb ts hj
    go_enter Tryz.func99, Tryz.ntmps99
    go_wp2_with fail
    go_ret
    exact ⟨rfl, rfl⟩
  have e1' : (n == 95) = false := by rw [beq_eq_false_iff_ne]; exact e1
  have e2' : (n == 37) = false := by rw [beq_eq_false_iff_ne]; exact e2
  clear e1 e2
  cases e3 : blankB n <;> cases e4 : signB n <;> rw [e3] at tb <;> rw [e4] at ts
  all_goals
    have hk := HK.out
    rw [e1', e2', e3, e4] at hk
    simp only [if_true, Bool.false_eq_true, if_false] at hk
    subst hk
    clear HK e3 e4
    rcases hj with hj | ⟨hj, hj'⟩ | ⟨hj, hj'⟩ | hj
    all_goals
      go_enter Tryz.func99, Tryz.ntmps99
      go_wp2_with (go_at_call 114; first | (with_reducible refine (HB.out _).mono ?_; rintro e w' ⟨rfl, rfl⟩) | (with_reducible refine (HS.out _).mono ?_; rintro e w' ⟨rfl, rfl⟩))
      go_ret
      exact ⟨rfl, rfl⟩
/-- The place where a name of a kind ends. -/
def runL (l : List UInt8) (tok : Int) : Nat := (l.takeWhile fun x => moreB (tok == 2) x.toNat).length
theorem tw_le {p : UInt8 → Bool} : ∀ l : List UInt8, (l.takeWhile p).length ≤ l.length
  | [] => by simp
  | c :: r => by
    have := tw_le (p := p) r
    rw [List.takeWhile_cons]
    split <;> simp <;> omega
theorem runL_le (l : List UInt8) (tok : Int) : runL l tok ≤ l.length := tw_le _
theorem kind_more (n : Int) : moreB false n = (kindI n == 3 || kindI n == 5 || kindI n == 6) := by
  unfold moreB lowB kindI
  by_cases h1 : smallB n = true
  · rw [if_pos h1, h1]; rfl
  rw [if_neg h1]
  by_cases h2 : greatB n = true
  · rw [if_pos h2]
    have h3 : digitB n = false := by
      simp only [greatB, Bool.and_eq_true, decide_eq_true_eq] at h2
      rw [Bool.eq_false_iff]; simp [digitB]; omega
    have h4 : (n == 95) = false := by
      simp only [greatB, Bool.and_eq_true, decide_eq_true_eq] at h2
      rw [beq_eq_false_iff_ne]; omega
    rw [h3, h4]; simp [h1]
  rw [if_neg h2]
  by_cases h3 : digitB n = true
  · rw [if_pos h3, h3]; simp
  rw [if_neg h3]
  by_cases h4 : (n == 95) = true
  · rw [if_pos h4, h4]; simp
  rw [if_neg h4]
  simp only [Bool.not_eq_true] at h1 h3 h4
  rw [h1, h3, h4]
  split
  · rfl
  · split
    · rfl
    · split <;> rfl
theorem kind_great (n : Int) : greatB n = (kindI n == 4) := by
  unfold kindI
  by_cases h1 : smallB n = true
  · rw [if_pos h1]
    simp only [smallB, Bool.and_eq_true, decide_eq_true_eq] at h1
    have : greatB n = false := by rw [Bool.eq_false_iff]; simp [greatB]; omega
    rw [this]; rfl
  rw [if_neg h1]
  by_cases h2 : greatB n = true
  · rw [if_pos h2, h2]; rfl
  rw [if_neg h2]
  simp only [Bool.not_eq_true] at h2
  rw [h2]
  repeat (split; · rfl)
  rfl
theorem kind_range (n : Int) : 0 ≤ kindI n ∧ kindI n ≤ 7 := by
  unfold kindI
  repeat (split; · exact ⟨by omega, by omega⟩)
  exact ⟨by omega, by omega⟩
set_option maxHeartbeats 1000000 in
theorem run_any (l : List UInt8) (i : Nat) (tok : Int) (w : World) (hi : i ≤ l.length) (hl : l.length ≤ 65536) :
    Calls Tryz.prog 101 #[.string ⟨l.toArray⟩, .int .i64 i, .int .i64 tok] w fun e w' => e = .returned (.int .i64 ((i + runL (l.drop i) tok : Nat) : Int)) ∧ w = w' := by
  obtain ⟨R, hR⟩ : ∃ R, Hid (R = i + runL (l.drop i) tok) := ⟨_, rfl⟩
  have hres0 : Hid (R = i + runL (l.drop i) tok) := hR
  rw [← hR.out]
  cases ht : (tok != 2)
  all_goals
    have ht' : (tok == 2) = !(tok != 2) := by simp [bne]
    rw [ht] at ht'
    have HT' := Lib.hid ht'
    clear ht'
    go_enter Tryz.func101, Tryz.ntmps101
    go_wp2_with fail
    go_loop [1] (fun q => ∃ k : Nat, k ≤ l.length ∧ q = .int .i64 k ∧ Hid (R = k + runL (l.drop k) tok)) (fun q => l.length - (intOf q).toNat)
    case atStart => exact ⟨i, hi, rfl, hres0⟩
    case round =>
      clear hres0
      obtain ⟨k, hk, rfl, hres⟩ := hrel
      by_cases hlt : k < l.length
      · have hst : runL (l.drop k) tok = if moreB (tok == 2) ((ByteArray.mk l.toArray)[k]'hlt).toNat then runL (l.drop (k + 1)) tok + 1 else 0 := by
          rw [at_bytes l k hlt hlt, runL, List.drop_eq_getElem_cons hlt, List.takeWhile_cons]
          split <;> simp [runL]
        have h256 : (((ByteArray.mk l.toArray)[k]'hlt).toNat : Int) < 256 := by have := UInt8.toNat_lt ((ByteArray.mk l.toArray)[k]'hlt); omega
        have HK := Lib.hid (fun W => kind_any (((ByteArray.mk l.toArray)[k]'hlt).toNat : Int) W (by omega) h256)
        have hkr := kind_range (((ByteArray.mk l.toArray)[k]'hlt).toNat : Int)
        have hm1 := kind_more (((ByteArray.mk l.toArray)[k]'hlt).toNat : Int)
        have hg1 := kind_great (((ByteArray.mk l.toArray)[k]'hlt).toNat : Int)
        have hst2 : ∀ q, kindI (((ByteArray.mk l.toArray)[k]'hlt).toNat : Int) = q → R = if ((q == 3 || q == 5 || q == 6) || (tok == 2 && q == 4)) = true then k + 1 + runL (l.drop (k + 1)) tok else k := by
          rintro q rfl
          rw [← hm1, ← hg1, hres.out, hst]
          have e : moreB (tok == 2) (((ByteArray.mk l.toArray)[k]'hlt).toNat : Int) = (moreB false (((ByteArray.mk l.toArray)[k]'hlt).toNat : Int) || (tok == 2 && greatB (((ByteArray.mk l.toArray)[k]'hlt).toNat : Int))) := by
            unfold moreB; rw [Bool.false_and, Bool.or_false]
          rw [e]
          split <;> omega
        have HST := Lib.hid hst2
        clear hst hst2 hm1 hg1 h256
        go_wp2_with fail
        refine (HK.out _).mono ?_
        rintro e w' ⟨rfl, rfl⟩
        clear HK
        generalize kindI (((ByteArray.mk l.toArray)[k]'hlt).toNat : Int) = q at *
        have hst3 := HST.out q rfl
        have HS3 := Lib.hid hst3
        clear HST hst3
        obtain ⟨q0, q7⟩ := hkr
        rcases (by omega : q = 0 ∨ q = 1 ∨ q = 2 ∨ q = 3 ∨ q = 4 ∨ q = 5 ∨ q = 6 ∨ q = 7) with rfl | rfl | rfl | rfl | rfl | rfl | rfl | rfl
        all_goals
          go_wp2_with fail
          first
          | (go_ret
             exact ⟨ret_int (by have ht' := HT'.out; have h := HS3.out; simp [ht'] at h; omega), rfl⟩)
          | (go_round
             case rel => exact ⟨k + 1, by omega, by go_num, (by have ht' := HT'.out; have h := HS3.out; simp [ht'] at h; exact h)⟩
             case measure => simp [intOf]; omega)
      · go_wp2_with fail
        go_ret
        refine ⟨ret_int ?_, rfl⟩
        rw [hres.out, List.drop_eq_nil_of_le (by omega)]
        have : runL [] tok = 0 := rfl
        omega
/-- A line: up to a line end. -/
def lineL (l : List UInt8) : List UInt8 := l.takeWhile fun x => x != 10
theorem index_line : ∀ l : List UInt8, Lib.indexByte l 10 = if (10 : UInt8) ∈ l then ((lineL l).length : Int) else -1
  | [] => rfl
  | c :: r => by
    have ih := index_line r
    rw [Lib.indexByte, lineL, List.takeWhile_cons]
    by_cases hc : c = 10
    · subst hc
      rw [if_pos (by simp), if_pos (by simp)]; simp
    · rw [if_neg (by simpa using hc), ih]
      have e : (10 : UInt8) ∈ c :: r ↔ (10 : UInt8) ∈ r := by
        rw [List.mem_cons]; exact ⟨fun h => h.resolve_left (fun h => hc h.symm), .inr⟩
      by_cases hr : (10 : UInt8) ∈ r
      · rw [if_pos hr, if_pos (e.2 hr), if_neg (by first | (simp; done) | (simp; omega)), if_pos (by simpa using hc), List.length_cons]; simp [lineL]
      · rw [if_neg hr, if_neg (fun h => hr (e.1 h))]; simp
theorem line_none {l : List UInt8} (h : (10 : UInt8) ∉ l) : lineL l = l := takeWhile_all fun x hx => by
  simp only [bne_iff_ne, ne_eq]
  rintro rfl
  exact h hx
theorem line_split (l : List UInt8) : l = lineL l ++ l.dropWhile fun x => x != 10 := (List.takeWhile_append_dropWhile).symm
theorem run_cutS {S F T : List UInt8} (h : S = F ++ T) (W : World) : (Instr.slice 9 (.string ⟨S.toArray⟩) none (some (.int .i64 F.length)) none).run Tryz.prog W = .ok (.string ⟨F.toArray⟩) W := by
  have hle : F.length ≤ S.length := by rw [h]; simp
  have e := ext_bytes S 0 F.length
  rw [List.drop_zero, show S.take F.length = F from by rw [h, List.take_left']; rfl] at e
  rw [← e]
  have hle' : (F.length : Int) ≤ (S.length : Int) := by omega
  clear h e
  go_simp
theorem run_restS {S F T : List UInt8} (h : S = F ++ T) (n : Nat) (hn : F.length = n) (W : World) : (Instr.slice 9 (.string ⟨S.toArray⟩) (some (.int .i64 n)) none none).run Tryz.prog W = .ok (.string ⟨T.toArray⟩) W := by
  subst hn
  have hle : F.length ≤ S.length := by rw [h]; simp
  have e := ext_bytes S F.length S.length
  rw [List.take_length, show S.drop F.length = T from by rw [h, List.drop_left']; rfl] at e
  rw [← e]
  have hle' : (F.length : Int) ≤ (S.length : Int) := by omega
  clear h e
  go_simp
/-- What Cut at a line end comes to: the line first. -/
def CutPost (l : List UInt8) (w : World) (e : Ending) (w' : World) : Prop := ∃ (rest : List UInt8) (fnd : Bool) (n : Nat), e = .returned (.tuple #[.string ⟨(lineL l).toArray⟩, .string ⟨rest.toArray⟩, .bool fnd]) ∧ w' = w.drewN n
set_option maxHeartbeats 1000000 in
theorem icut_any (l : List UInt8) (w : World) (hl : l.length ≤ 65536) :
    Calls Tryz.prog 115 #[.string ⟨l.toArray⟩, .string ⟨#[10]⟩] w (CutPost l w) := by
  have HI : Hid (∀ W, Calls Tryz.prog 133 #[.string ⟨l.toArray⟩, .string ⟨#[10]⟩] W fun e w' => e = .returned (.int .i64 (if (10 : UInt8) ∈ l then ((lineL l).length : Int) else -1)) ∧ W = w') := by
    intro W
    have h := Tryz.stringslite_Index_one ⟨l.toArray⟩ 10 W
    rw [show (ByteArray.mk l.toArray).data.toList = l from rfl, index_line] at h
    exact h.mono fun _ _ h => ⟨h.1, h.2.symm⟩
  by_cases hm : (10 : UInt8) ∈ l
  · rw [if_pos hm] at HI
    have hs := line_split l
    obtain ⟨F, hF⟩ : ∃ F, Hid (F = lineL l) := ⟨_, rfl⟩
    have hT : ∃ T, l.dropWhile (fun x => x != 10) = 10 :: T := by
      have hne : l.dropWhile (fun x => x != 10) ≠ [] := by
        intro e
        rw [e, List.append_nil] at hs
        rw [hs] at hm
        have := takeWhile_mem hm
        simp at this
      cases hd : l.dropWhile (fun x => x != 10) with
      | nil => exact absurd hd hne
      | cons c T =>
        have := List.head_dropWhile_not (fun x : UInt8 => x != 10) hne
        simp only [hd, List.head_cons] at this
        have hc : c = 10 := by simpa using this
        exact ⟨T, by rw [hc]⟩
    obtain ⟨T, hT⟩ := hT
    rw [hT, ← hF.out] at hs
    have hlen : l.length = F.length + 1 + T.length := by rw [hs]; simp; omega
    have k1 := fun W => run_cutS hs W
    have k2 : ∀ W, (Instr.slice 9 (.string ⟨l.toArray⟩) (some (.int .i64 ((F.length : Int) + 1))) none none).run Tryz.prog W = .ok (.string ⟨T.toArray⟩) W := fun W => run_restS (show l = (F ++ [10]) ++ T by rw [hs]; simp) (F.length + 1) (by simp) W
    have hw : IntKind.i64.wrap ((F.length : Int) + 1) = (F.length : Int) + 1 := IntWalk.i64_in _ (by omega)
    have hP : ∀ (n : Nat), CutPost l w (.returned (.tuple #[.string ⟨F.toArray⟩, .string ⟨T.toArray⟩, .bool true])) (w.drewN n) := fun n => ⟨T, true, n, by rw [hF.out], rfl⟩
    rw [← hF.out] at HI
    have HP := Lib.hid hP
    have HLEN := Lib.hid hlen
    clear hs hT hm hlen hP hF
    go_enter Tryz.func115, Tryz.ntmps115
    go_wp2_with fail
    refine (HI.out _).mono ?_
    rintro e w' ⟨rfl, rfl⟩
    go_wp2_with fail
    go_quiet (fail)
    go_wp2_with fail
    go_ret3
    exact HP.out _
  · rw [if_neg hm] at HI
    have hP : CutPost l w (.returned (.tuple #[.string ⟨l.toArray⟩, .string ⟨#[]⟩, .bool false])) w := ⟨[], false, 0, by rw [line_none hm], rfl⟩
    have HP := Lib.hid hP
    clear hP hm
    go_enter Tryz.func115, Tryz.ntmps115
    go_wp2_with fail
    refine (HI.out _).mono ?_
    rintro e w' ⟨rfl, rfl⟩
    go_wp2_with fail
    go_ret3
    exact HP.out
set_option maxHeartbeats 1000000 in
theorem cut_any (l : List UInt8) (w : World) (hl : l.length ≤ 65536) :
    Calls Tryz.prog 100 #[.string ⟨l.toArray⟩, .string ⟨#[10]⟩] w (CutPost l w) := by
  go_enter Tryz.func100, Tryz.ntmps100
  go_wp2_with fail
  refine (icut_any l _ hl).mono ?_
  rintro e w1 ⟨rest, fnd, n, rfl, rfl⟩
  go_wp2_with fail
  go_ret3
  exact ⟨rest, fnd, n, rfl, rfl⟩
end Go.Proofs.YtnfjjckbgnieeaaGreatDoor
