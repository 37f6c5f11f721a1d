/- The reference of layer 9, as the parser's laws read it: in, more, skip, token, tokens, All. -/
import Derived.Test.YtnfjjckbgnieeaaGreatDoorQParA
import Derived.Test.YtnfjjckbgnieeaaGreatDoorQRef01
namespace Go.Proofs.YtnfjjckbgnieeaaGreatDoor
open Go.RowKit

theorem any_step {l : List UInt8} {p : UInt8 → Bool} {k : Nat} (h : k < l.length) : (l.drop k).any p = (p l[k] || (l.drop (k + 1)).any p) := by
  rw [List.drop_eq_getElem_cons h, List.any_cons]
set_option maxHeartbeats 1000000 in
theorem rin_any (l : List UInt8) (n : Int) (w : World) (hl : l.length ≤ 1000) :
    Calls Tryz.prog 96 #[.string ⟨l.toArray⟩, .int .u8 n] w fun e w' => e = .returned (.bool (l.any fun x => (x.toNat : Int) == n)) ∧ w = w' := by
  obtain ⟨R, hR⟩ : ∃ R, Hid (R = l.any fun x => (x.toNat : Int) == n) := ⟨_, rfl⟩
  rw [← hR.out]
  go_enter Tryz.func96, Tryz.ntmps96
  go_wp2_with fail
  go_loop [5] (fun i => ∃ k : Nat, k ≤ l.length ∧ i = .int .i64 k ∧ Hid (R = (l.drop k).any fun x => (x.toNat : Int) == n)) (fun i => l.length - (intOf i).toNat)
  case atStart => exact ⟨0, Nat.zero_le _, rfl, hR⟩
  case round =>
    obtain ⟨k, hk, rfl, hres⟩ := hrel
    by_cases hlt : k < l.length
    · have hst := any_step (p := fun x => (x.toNat : Int) == n) hlt
      have HST := Lib.hid hst
      clear hst
      cases hm : ((((ByteArray.mk l.toArray)[k]'hlt).toNat : Int) == n)
      · have hres2 : Hid (R = (l.drop (k + 1)).any fun x => (x.toNat : Int) == n) := by
          show _ = _
          rw [hres.out, HST.out, ← at_bytes l k hlt hlt, hm, Bool.false_or]
        go_wp2
        go_round
        case rel => exact ⟨k + 1, by omega, by go_num, hres2⟩
        case measure => simp [intOf]; omega
      · have hres2 : Hid (R = true) := by
          show _ = _
          rw [hres.out, HST.out, ← at_bytes l k hlt hlt, hm, Bool.true_or]
        go_wp2
        go_ret
        exact ⟨ret_bool hres2.out.symm, rfl⟩
    · have hres2 : Hid (R = false) := by
        show _ = _
        rw [hres.out, List.drop_eq_nil_of_le (by omega)]; rfl
      go_wp2
      go_ret
      exact ⟨ret_bool hres2.out.symm, rfl⟩
theorem in_blank (n : Int) : (([32, 10, 9, 13] : List UInt8).any fun x => (x.toNat : Int) == n) = blankB n := by
  show ((32 : Int) == n || ((10 : Int) == n || ((9 : Int) == n || ((13 : Int) == n || false)))) = (n == 32 || n == 10 || n == 9 || n == 13)
  rw [Bool.eq_iff_iff]
  simp only [Bool.or_eq_true, beq_iff_eq, Bool.false_eq_true, or_false]
  omega
theorem in_sign (n : Int) : (([40, 41, 44, 46, 58, 47, 63] : List UInt8).any fun x => (x.toNat : Int) == n) = signB n := by
  show ((40 : Int) == n || ((41 : Int) == n || ((44 : Int) == n || ((46 : Int) == n || ((58 : Int) == n || ((47 : Int) == n || ((63 : Int) == n || false))))))) = (n == 40 || n == 41 || n == 44 || n == 46 || n == 58 || n == 47 || n == 63)
  rw [Bool.eq_iff_iff]
  simp only [Bool.or_eq_true, beq_iff_eq, Bool.false_eq_true, or_false]
  omega
theorem rin_blank (n : Int) (w : World) : Calls Tryz.prog 96 #[.string ⟨#[32, 10, 9, 13]⟩, .int .u8 n] w fun e w' => e = .returned (.bool (blankB n)) ∧ w = w' := by
  have h := rin_any [32, 10, 9, 13] n w (by decide)
  rwa [in_blank] at h
theorem rin_sign (n : Int) (w : World) : Calls Tryz.prog 96 #[.string ⟨#[40, 41, 44, 46, 58, 47, 63]⟩, .int .u8 n] w fun e w' => e = .returned (.bool (signB n)) ∧ w = w' := by
  have h := rin_any [40, 41, 44, 46, 58, 47, 63] n w (by decide)
  rwa [in_sign] at h
set_option maxHeartbeats 1000000 in
theorem rmore_any (k n : Int) (w : World) : Calls Tryz.prog 97 #[.int .i64 k, .int .u8 n] w fun e w' => e = .returned (.bool (moreB (k == 2) n)) ∧ w = w' := by
  have hu : moreB (k == 2) n = (smallB n || digitB n || n == 95 || (k == 2 && greatB n)) := rfl
  rw [hu]
  clear hu
  cases h1 : smallB n <;> cases h2 : digitB n <;> cases h3 : (n == 95) <;> cases h4 : (k == 2) <;> cases h5 : greatB n
  all_goals
    go_enter Tryz.func97, Tryz.ntmps97
    go_wp2_with (first | (go_at_call 43; refine (rSmall_any _ _).mono ?_; rintro e w' ⟨rfl, rfl⟩) | (go_at_call 93; refine (rDigit_any _ _).mono ?_; rintro e w' ⟨rfl, rfl⟩) | (go_at_call 95; refine (rGreat_any _ _).mono ?_; rintro e w' ⟨rfl, rfl⟩))
    go_ret
    exact ⟨rfl, rfl⟩
theorem byte_eq {c : UInt8} {k : Nat} (hk : k < 256) (h : (c.toNat : Int) = (k : Int)) : c = k.toUInt8 := by
  have h2 : c.toNat = k := by omega
  apply UInt8.toNat_inj.1
  rw [h2]
  simp [Nat.toUInt8, UInt8.toNat_ofNat', Nat.mod_eq_of_lt hk]
theorem skip_consN (c : UInt8) (r : List UInt8) : skipN false (c :: r) = if blankB (c.toNat : Int) then 1 + skipN false r else if (c.toNat : Int) = 37 then skipN true (c :: r) else 0 := by
  show (if blankB (c.toNat : Int) then 1 + skipN false r else if c = 37 then 1 + skipN true r else 0) = _
  by_cases hb : blankB (c.toNat : Int) = true
  · rw [if_pos hb, if_pos hb]
  · rw [if_neg hb, if_neg hb]
    by_cases h37 : c = 37
    · subst h37; rfl
    · have h2 : ¬ (c.toNat : Int) = 37 := fun e => h37 (byte_eq (k := 37) (by omega) e)
      rw [if_neg h37, if_neg h2]
theorem skip_lineN (c : UInt8) (r : List UInt8) : skipN true (c :: r) = if (c.toNat : Int) = 10 then skipN false (c :: r) else 1 + skipN true r := by
  show (if c = 10 then 1 + skipN false r else 1 + skipN true r) = _
  by_cases h10 : c = 10
  · subst h10; rfl
  · have h2 : ¬ (c.toNat : Int) = 10 := fun e => h10 (byte_eq (k := 10) (by omega) e)
    rw [if_neg h10, if_neg h2]
theorem skip_cons {s : List UInt8} {j : Nat} (h : j < s.length) : skipN false (s.drop j) = if blankB (((ByteArray.mk s.toArray)[j]'h).toNat : Int) then 1 + skipN false (s.drop (j + 1)) else if (((ByteArray.mk s.toArray)[j]'h).toNat : Int) = 37 then skipN true (s.drop j) else 0 := by
  rw [at_bytes s j h h]
  have e := List.drop_eq_getElem_cons h
  have h1 := skip_consN s[j] (s.drop (j + 1))
  rw [← e] at h1
  exact h1
theorem skip_line {s : List UInt8} {j : Nat} (h : j < s.length) : skipN true (s.drop j) = if (((ByteArray.mk s.toArray)[j]'h).toNat : Int) = 10 then skipN false (s.drop j) else 1 + skipN true (s.drop (j + 1)) := by
  rw [at_bytes s j h h]
  have e := List.drop_eq_getElem_cons h
  have h1 := skip_lineN s[j] (s.drop (j + 1))
  rw [← e] at h1
  exact h1
set_option maxHeartbeats 2000000 in
theorem rskip_any (s : List UInt8) (i : Nat) (w : World) (hi : i ≤ s.length) (hs : s.length ≤ 65536) :
    Calls Tryz.prog 70 #[.string ⟨s.toArray⟩, .int .i64 (i : Int)] w fun e w' => e = .returned (.int .i64 ((i + skipN false (s.drop i) : Nat) : Int)) ∧ w = w' := by
  obtain ⟨R, hR⟩ : ∃ R, Hid (R = i + skipN false (s.drop i)) := ⟨_, rfl⟩
  rw [← hR.out]
  go_enter Tryz.func70, Tryz.ntmps70
  go_wp2_with fail
  go_loop [1] (fun m => ∃ j : Nat, j ≤ s.length ∧ m = .int .i64 (j : Int) ∧ Hid (R = j + skipN false (s.drop j))) (fun m => s.length - (intOf m).toNat)
  case atStart => exact ⟨i, hi, rfl, hR⟩
  case round =>
    clear hR hi
    obtain ⟨j, hj, rfl, hres⟩ := hrel
    by_cases hlt : j < s.length
    · have hsk := skip_cons hlt
      have HSK := Lib.hid hsk
      clear hsk
      cases hb : blankB (((ByteArray.mk s.toArray)[j]'hlt).toNat : Int)
      · cases h37 : ((((ByteArray.mk s.toArray)[j]'hlt).toNat : Int) == 37)
        · have hres2 : Hid (R = j) := by
            show _ = _
            rw [hres.out, HSK.out, hb, if_neg (by simp), if_neg (by simpa using h37)]; omega
          have hRj : (R : Int) = (j : Int) := by rw [hres2.out]
          go_wp2_with (go_at_call 96; refine (rin_blank _ _).mono ?_; rintro e w' ⟨rfl, rfl⟩)
          go_ret
          first | exact ⟨ret_int hRj.symm, rfl⟩ | exact ⟨rfl, rfl⟩
        · have hres2 : Hid (R = j + skipN true (s.drop j)) := by
            show _ = _
            rw [hres.out, HSK.out, hb, if_neg (by simp), if_pos (by simpa using h37)]
          have H37 := Lib.hid h37
          have hj37 : Hid ((((ByteArray.mk s.toArray)[j]'hlt).toNat : Int) = 37) := by show _ = _; simpa using h37
          go_wp2_with (go_at_call 96; refine (rin_blank _ _).mono ?_; rintro e w' ⟨rfl, rfl⟩)
          clear hb h37 HSK hres
          go_loop [1] (fun m => ∃ k : Nat, j ≤ k ∧ k ≤ s.length ∧ m = .int .i64 (k : Int) ∧ Hid (R = k + skipN true (s.drop k))) (fun m => s.length - (intOf m).toNat)
          case atStart => exact ⟨j, Nat.le_refl _, hj, rfl, hres2⟩
          case round =>
            clear hres2
            obtain ⟨k, hjk, hk, rfl, hres3⟩ := hrel
            by_cases hltk : k < s.length
            · have hsl := skip_line hltk
              have HSL := Lib.hid hsl
              clear hsl
              cases h10 : ((((ByteArray.mk s.toArray)[k]'hltk).toNat : Int) == 10)
              · have hne : ((((ByteArray.mk s.toArray)[k]'hltk).toNat : Int) != 10) = true := by simpa using h10
                have hres4 : Hid (R = k + 1 + skipN true (s.drop (k + 1))) := by
                  show _ = _
                  rw [hres3.out, HSL.out, if_neg (by simpa using h10)]; omega
                go_wp2
                go_round
                case rel => exact ⟨k + 1, by omega, by omega, by go_num, hres4⟩
                case measure => simp [intOf]; omega
              · have hne : ((((ByteArray.mk s.toArray)[k]'hltk).toNat : Int) != 10) = false := by simpa using h10
                have hres4 : Hid (R = k + skipN false (s.drop k)) := by
                  show _ = _
                  rw [hres3.out, HSL.out, if_pos (by simpa using h10)]
                have hjk2 : j < k := by
                  rcases Nat.lt_or_ge j k with h | h
                  · exact h
                  · obtain rfl : k = j := by omega
                    have h1 := hj37.out
                    have h2 : (((ByteArray.mk s.toArray)[k]'hltk).toNat : Int) = 10 := by simpa using h10
                    omega
                go_wp2
                go_round
                case rel => exact ⟨k, hk, rfl, hres4⟩
                case measure => simp [intOf]; omega
            · have hres4 : Hid (R = k + skipN false (s.drop k)) := by
                show _ = _
                rw [hres3.out, List.drop_eq_nil_of_le (by omega)]; rfl
              go_wp2
              go_round
              case rel => exact ⟨k, hk, rfl, hres4⟩
              case measure => simp [intOf]; omega
      · have hres2 : Hid (R = j + 1 + skipN false (s.drop (j + 1))) := by
          show _ = _
          rw [hres.out, HSK.out, hb, if_pos rfl]; omega
        go_wp2_with (go_at_call 96; refine (rin_blank _ _).mono ?_; rintro e w' ⟨rfl, rfl⟩)
        go_round
        case rel => exact ⟨j + 1, by omega, by go_num, hres2⟩
        case measure => simp [intOf]; omega
    · have hres2 : Hid (R = j) := by
        show _ = _
        rw [hres.out, List.drop_eq_nil_of_le (by omega)]; rfl
      have hRj : (R : Int) = (j : Int) := by rw [hres2.out]
      go_wp2
      go_ret
      first | exact ⟨ret_int hRj.symm, rfl⟩ | exact ⟨rfl, rfl⟩
def RtPost (s : List UInt8) (i : Nat) (w : World) (e : Ending) (w' : World) : Prop := Since w w' ∧ match tokN (s.drop i) with
  | some (.ok (q, t)) => e = .returned (.tuple #[.agg #[.int .i64 q, .string ⟨t.toArray⟩, .int .i64 (i : Int)], .int .i64 0])
  | some (.error x) => e = .returned (.tuple #[.agg #[.int .i64 0, .string ⟨#[]⟩, .int .i64 0], .int .i64 x])
  | none => False
theorem tok_sign {s : List UInt8} {i : Nat} (h : i < s.length) (hs : signB (((ByteArray.mk s.toArray)[i]'h).toNat : Int) = true) : tokN (s.drop i) = some (.ok (3, (s.take (i + 1)).drop i)) := by
  rw [at_bytes s i h h] at hs
  have e : (s.take (i + 1)).drop i = [s[i]] := by
    rw [List.drop_take, List.drop_eq_getElem_cons h, show i + 1 - i = 1 by omega]; rfl
  rw [e, List.drop_eq_getElem_cons h]
  exact tokN_sign hs
theorem tw_drop {s : List UInt8} {i m : Nat} {p : UInt8 → Bool} (hm : m = ((s.drop i).takeWhile p).length) : (s.take (i + m)).drop i = (s.drop i).takeWhile p := by
  rw [List.drop_take, show i + m - i = m by omega, hm, take_tw]
theorem tok_great {s : List UInt8} {i : Nat} (h : i < s.length) (hs : signB (((ByteArray.mk s.toArray)[i]'h).toNat : Int) = false) (hg : greatB (((ByteArray.mk s.toArray)[i]'h).toNat : Int) = true) :
    tokN (s.drop i) = some (if runL (s.drop i) 2 ≤ 255 then .ok (2, (s.take (i + runL (s.drop i) 2)).drop i) else .error 4) := by
  rw [at_bytes s i h h] at hs hg
  have hm : moreB true (s[i].toNat : Int) = true := by simp [moreB, hg]
  have e : (s.drop i).takeWhile (fun x => moreB true x.toNat) = s[i] :: (s.drop (i + 1)).takeWhile fun x => moreB true x.toNat := by
    rw [List.drop_eq_getElem_cons h, List.takeWhile_cons, hm]; rfl
  have hr : runL (s.drop i) 2 = ((s.drop i).takeWhile fun x => moreB true x.toNat).length := rfl
  rw [tw_drop hr, hr, e, List.drop_eq_getElem_cons h, tokN_great hs hg]
theorem tok_first {s : List UInt8} {i : Nat} (h : i < s.length) (hs : signB (((ByteArray.mk s.toArray)[i]'h).toNat : Int) = false) (hg : greatB (((ByteArray.mk s.toArray)[i]'h).toNat : Int) = false) (hf : firstB (((ByteArray.mk s.toArray)[i]'h).toNat : Int) = true) :
    tokN (s.drop i) = some (if runL (s.drop i) 1 ≤ 255 then .ok (1, (s.take (i + runL (s.drop i) 1)).drop i) else .error 4) := by
  rw [at_bytes s i h h] at hs hg hf
  have hm : moreB false (s[i].toNat : Int) = true := by
    have h2 : (smallB (s[i].toNat : Int) || digitB (s[i].toNat : Int)) = true := hf
    show (smallB (s[i].toNat : Int) || digitB (s[i].toNat : Int) || _ || _) = true
    rw [h2]; rfl
  have e : (s.drop i).takeWhile (fun x => moreB false x.toNat) = s[i] :: (s.drop (i + 1)).takeWhile fun x => moreB false x.toNat := by
    rw [List.drop_eq_getElem_cons h, List.takeWhile_cons, hm]; rfl
  have hr : runL (s.drop i) 1 = ((s.drop i).takeWhile fun x => moreB false x.toNat).length := rfl
  rw [tw_drop hr, hr, e, List.drop_eq_getElem_cons h, tokN_first hs hg hf]
theorem tok_bad {s : List UInt8} {i : Nat} (h : i < s.length) (hs : signB (((ByteArray.mk s.toArray)[i]'h).toNat : Int) = false) (hg : greatB (((ByteArray.mk s.toArray)[i]'h).toNat : Int) = false) (hf : firstB (((ByteArray.mk s.toArray)[i]'h).toNat : Int) = false) :
    tokN (s.drop i) = some (.error 3) := by
  rw [at_bytes s i h h] at hs hg hf
  rw [List.drop_eq_getElem_cons h, tokN, hs, hg, hf]; rfl
theorem res_tok {tmps : Array Value} {g : Nat} {cs : Array Value} {x : Value} {W : World} (h4 : tmps.getD 4 undef = .pointer (some ⟨g, 0, none⟩)) (h5 : tmps.getD 5 undef = x) (hg : W.heap[g]? = some (.cells cs 63 (0, 0))) (hc : cs.size = 3) :
    (results Tryz.f71 tmps).run Tryz.prog W = .ok (.tuple #[.agg cs, x]) W := by
  rw [results_cell_tmp (p := 4) (u := 5) (ty := 63) rfl, h4, h5]
  have hl := run_loadVar_row (P := Tryz.prog) W g 63 63 cs (0, 0) _ hg Tryz.underlying63 rfl (by rw [hc]; kernel_rfl)
  simp only [asAddr, Sem.run_pure, Result.andThen_ok, hl]
theorem ix_str {o : Oper} {x y : Operand} {ev : Operand → Value} {s : List UInt8} {k : Nat} (ho : o.op = Op.index 9 x y) (hx : ev x = .string ⟨s.toArray⟩) (hy : ev y = .int .i64 (k : Int)) (h : k < s.length) (W : World) :
    (execOp ev o).run Tryz.prog W = .ok (.value (.int .u8 (((ByteArray.mk s.toArray)[k]'h).toNat : Int))) W := by
  have h1 : (k : Int) < (s.length : Int) := by omega
  have h0 : (0 : Int) ≤ (k : Int) := by omega
  simp only [execOp, ho]
  go_simp
theorem lss_is {o : Oper} {x y : Operand} {ev : Operand → Value} {s t : Int} {b : Bool} (ho : o.op = .binOp .lss 3 x y 3) (hx : ev x = .int .i64 s) (hy : ev y = .int .i64 t) (hd : decide (s < t) = b) (W : World) :
    (execOp ev o).run Tryz.prog W = .ok (.value (.bool b)) W := by
  rw [← hd]
  exact lss_int ho hx hy W
theorem run_step {s : List UInt8} {k : Nat} {tok : Int} (h : k < s.length) : runL (s.drop k) tok = if moreB (tok == 2) (((ByteArray.mk s.toArray)[k]'h).toNat : Int) then runL (s.drop (k + 1)) tok + 1 else 0 := by
  rw [at_bytes s k h h, runL, List.drop_eq_getElem_cons h, List.takeWhile_cons]
  split <;> simp [runL]
set_option maxHeartbeats 4000000 in
theorem rtoken_any (s : List UInt8) (i : Nat) (w : World) (hi : i < s.length) (hs : s.length ≤ 65536) :
    Calls Tryz.prog 71 #[.string ⟨s.toArray⟩, .int .i64 (i : Int)] w (RtPost s i w) := by
  have hS : Since w ((w.alloc (.cells #[.int .i64 0, .string ⟨#[]⟩, .int .i64 0] 63)).alloc (.cells #[.int .i64 0, .string ⟨#[]⟩, .int .i64 (i : Int)] 63)) := ((Since.refl w).alloc _).alloc _
  have h1w : IntKind.i64.wrap ((i : Int) + 1) = ((i + 1 : Nat) : Int) := by rw [IntWalk.i64_in] <;> omega
  cases hs1 : signB (((ByteArray.mk s.toArray)[i]'hi).toNat : Int)
  · cases hg1 : greatB (((ByteArray.mk s.toArray)[i]'hi).toNat : Int)
    · cases hf1 : firstB (((ByteArray.mk s.toArray)[i]'hi).toNat : Int)
      · have ht := tok_bad hi hs1 hg1 hf1
        have hP : ∀ W, Since w W → RtPost s i w (.returned (.tuple #[.agg #[.int .i64 0, .string ⟨#[]⟩, .int .i64 0], .int .i64 3])) W := fun W h => by
          refine ⟨h, ?_⟩
          rw [ht]
        have HP := Lib.hid hP
        have hm1 : smallB (((ByteArray.mk s.toArray)[i]'hi).toNat : Int) = false := (Bool.or_eq_false_iff.1 hf1).1
        have hm2 : digitB (((ByteArray.mk s.toArray)[i]'hi).toNat : Int) = false := (Bool.or_eq_false_iff.1 hf1).2
        clear hP ht hf1
        go_enter Tryz.func71, Tryz.ntmps71
        go_wp2_with (first | (go_at_call 96; refine (rin_sign _ _).mono ?_; rintro e w' ⟨rfl, rfl⟩) | (go_at_call 95; refine (rGreat_any _ _).mono ?_; rintro e w' ⟨rfl, rfl⟩) | (go_at_call 43; refine (rSmall_any _ _).mono ?_; rintro e w' ⟨rfl, rfl⟩) | (go_at_call 93; refine (rDigit_any _ _).mono ?_; rintro e w' ⟨rfl, rfl⟩))
        refine bodyPost_ret (res_tok (g := w.heap.size) rfl rfl (blk_alloc (heap_alloc_new _ _) _) rfl) rfl ?_
        exact HP.out _ (((Since.refl w).alloc _).alloc _)
      · cases hm1 : smallB (((ByteArray.mk s.toArray)[i]'hi).toNat : Int)
        · have hm2 : digitB (((ByteArray.mk s.toArray)[i]'hi).toNat : Int) = true := by
            have h : (smallB (((ByteArray.mk s.toArray)[i]'hi).toNat : Int) || digitB (((ByteArray.mk s.toArray)[i]'hi).toNat : Int)) = true := hf1
            rwa [hm1, Bool.false_or] at h
          have ht := tok_first hi hs1 hg1 hf1
          obtain ⟨R, hR⟩ : ∃ R, Hid (R = i + runL (s.drop i) 1) := ⟨_, rfl⟩
          have hRl : R ≤ s.length := by
            have := runL_le (s.drop i) 1
            rw [List.length_drop] at this
            have := hR.out
            omega
          have hRi : i ≤ R := by have := hR.out; omega
          have hr9 : runL (s.drop i) 1 = R - i := by have := hR.out; omega
          rw [← hR.out, hr9] at ht
          have hP : ∀ W, Since w W → (255 < R - i → RtPost s i w (.returned (.tuple #[.agg #[.int .i64 0, .string ⟨#[]⟩, .int .i64 0], .int .i64 4])) W) ∧ (R - i ≤ 255 → RtPost s i w (.returned (.tuple #[.agg #[.int .i64 1, .string ⟨((s.take R).drop i).toArray⟩, .int .i64 (i : Int)], .int .i64 0])) W) := fun W h => by
            refine ⟨fun hq => ⟨h, ?_⟩, fun hq => ⟨h, ?_⟩⟩
            · rw [ht, if_neg (by omega)]
            · rw [ht, if_pos hq]
          have HP := Lib.hid hP
          have hm : ∀ W, (Instr.slice 9 (.string ⟨s.toArray⟩) (some (.int .i64 i)) (some (.int .i64 R)) none).run Tryz.prog W = .ok (.string ⟨((s.take R).drop i).toArray⟩) W := fun W => run_mid hRi hRl W
          have HR := Lib.hid hR.out
          have HMid := Lib.hid hm
          generalize (s.take R).drop i = T at *
          clear hP ht hr9 hR hm
          clear hf1
          go_enter Tryz.func71, Tryz.ntmps71
          go_wp2_with (first | (go_at_call 96; refine (rin_sign _ _).mono ?_; rintro e w' ⟨rfl, rfl⟩) | (go_at_call 95; refine (rGreat_any _ _).mono ?_; rintro e w' ⟨rfl, rfl⟩) | (go_at_call 43; refine (rSmall_any _ _).mono ?_; rintro e w' ⟨rfl, rfl⟩) | (go_at_call 93; refine (rDigit_any _ _).mono ?_; rintro e w' ⟨rfl, rfl⟩))
          clear hS hm1 hm2 hs1 hg1
          have hS : Since w ((w.alloc (.cells #[.int .i64 0, .string ⟨#[]⟩, .int .i64 0] 63)).alloc (.cells #[.int .i64 1, .string ⟨#[]⟩, .int .i64 (i : Int)] 63)) := ((Since.refl w).alloc _).alloc _
          have hb0 : ((w.alloc (.cells #[.int .i64 0, .string ⟨#[]⟩, .int .i64 0] 63)).alloc (.cells #[.int .i64 1, .string ⟨#[]⟩, .int .i64 (i : Int)] 63)).heap[w.heap.size]? = some (.cells #[.int .i64 0, .string ⟨#[]⟩, .int .i64 0] 63 (0, 0)) := blk_alloc (heap_alloc_new _ _) _
          have hb1 : ((w.alloc (.cells #[.int .i64 0, .string ⟨#[]⟩, .int .i64 0] 63)).alloc (.cells #[.int .i64 1, .string ⟨#[]⟩, .int .i64 (i : Int)] 63)).heap[w.heap.size + 1]? = some (.cells #[.int .i64 1, .string ⟨#[]⟩, .int .i64 (i : Int)] 63 (0, 0)) := heap_alloc2_new _ _ _
          generalize (w.alloc (.cells #[.int .i64 0, .string ⟨#[]⟩, .int .i64 0] 63)).alloc (.cells #[.int .i64 1, .string ⟨#[]⟩, .int .i64 (i : Int)] 63) = W1 at *
          go_loopw [7] (fun m wr => ∃ k : Nat, i ≤ k ∧ k ≤ s.length ∧ m = .int .i64 (k : Int) ∧ Hid (R = k + runL (s.drop k) 1) ∧ Since W1 wr) (fun m _ => s.length - (intOf m).toNat)
          case atStart => exact ⟨i, by omega, by omega, rfl, HR.out, Since.refl _⟩
          case round =>
            obtain ⟨k, hik, hk, rfl, hres, hs1r⟩ := hrel
            have c0 : wr.heap[w.heap.size]? = some (.cells #[.int .i64 0, .string ⟨#[]⟩, .int .i64 0] 63 (0, 0)) := (Below.block hs1r _ (Array.getElem?_eq_some_iff.1 hb0).1).trans hb0
            have c1 : wr.heap[w.heap.size + 1]? = some (.cells #[.int .i64 1, .string ⟨#[]⟩, .int .i64 (i : Int)] 63 (0, 0)) := (Below.block hs1r _ (Array.getElem?_eq_some_iff.1 hb1).1).trans hb1
            have kc : wr.cell? ⟨w.heap.size + 1, 0, none⟩ = some (.int .i64 1) := cell_of_row _ _ _ _ _ _ c1
            go_wp2_with fail
            have h0 := (Since.refl wr).drew
            by_cases hlt : k < s.length
            · have hst := run_step (tok := 1) hlt
              have hd : decide ((k : Int) < (s.length : Int)) = true := decide_eq_true (by omega)
              have HM : Hid (∀ W, Calls Tryz.prog 97 #[.int .i64 1, .int .u8 (((ByteArray.mk s.toArray)[k]'hlt).toNat : Int)] W fun e w' => e = .returned (.bool (moreB ((1 : Int) == 2) (((ByteArray.mk s.toArray)[k]'hlt).toNat : Int))) ∧ W = w') := fun W => rmore_any _ _ W
              cases hmo : moreB ((1 : Int) == 2) (((ByteArray.mk s.toArray)[k]'hlt).toNat : Int)
              · rw [hmo] at HM hst
                have HST := Lib.hid hst
                clear hst hmo
                refine hx_begin (S := fun W => Since wr W) (by kernel_rfl) h0 (by kernel_rfl) (fun _ _ _ _ _ h => h) (fun hns hQ => ?_)
                refine hx_take (i := 0) (oi := _) (v := .int .i64 (k : Int)) rfl rfl hns (by kernel_rfl) (by kernel_rfl) hQ (by kernel_rfl) (fun _ _ => by kernel_rfl) h0 ?_
                refine hx_take (i := 1) (oi := _) (v := .string ⟨s.toArray⟩) rfl rfl hns (by kernel_rfl) (by kernel_rfl) hQ (by kernel_rfl) (fun _ _ => by kernel_rfl) h0 ?_
                refine hx_take (i := 2) (oi := _) (v := .int .i64 (s.length : Int)) rfl rfl hns (by kernel_rfl) (by kernel_rfl) hQ (by kernel_rfl) (fun _ _ => by kernel_rfl) h0 ?_
                refine hx_take (i := 3) (oi := _) (v := .bool true) rfl rfl hns (by kernel_rfl) (by kernel_rfl) hQ (by kernel_rfl) (fun W _ => lss_is rfl (by kernel_rfl) (by kernel_rfl) hd W) h0 ?_
                refine hx_take (i := 4) (oi := _) (v := .bool true) rfl rfl hns (by kernel_rfl) (by kernel_rfl) hQ (by kernel_rfl) (fun _ _ => by kernel_rfl) h0 ?_
                refine hx_take (i := 5) (oi := _) (v := .pointer (some ⟨w.heap.size + 1, 0, none⟩)) rfl rfl hns (by kernel_rfl) (by kernel_rfl) hQ (by kernel_rfl) (fun _ _ => by kernel_rfl) h0 ?_
                refine hx_take (i := 6) (oi := _) (v := .int .i64 1) rfl rfl hns (by kernel_rfl) (by kernel_rfl) hQ (by kernel_rfl) (fun W hW => ld_one rfl (by kernel_rfl) (by kernel_rfl) W (hW.cell kc)) h0 ?_
                refine hx_take (i := 7) (oi := _) (v := .string ⟨s.toArray⟩) rfl rfl hns (by kernel_rfl) (by kernel_rfl) hQ (by kernel_rfl) (fun _ _ => by kernel_rfl) h0 ?_
                refine hx_take (i := 8) (oi := _) (v := .int .i64 (k : Int)) rfl rfl hns (by kernel_rfl) (by kernel_rfl) hQ (by kernel_rfl) (fun _ _ => by kernel_rfl) h0 ?_
                refine hx_take (i := 9) (oi := _) (v := .int .u8 (((ByteArray.mk s.toArray)[k]'hlt).toNat : Int)) rfl rfl hns (by kernel_rfl) (by kernel_rfl) hQ (by kernel_rfl) (fun W _ => ix_str rfl (by kernel_rfl) (by kernel_rfl) hlt W) h0 ?_
                refine hx_call (i := 10) (oi := _) 97 #[.int .i64 1, .int .u8 (((ByteArray.mk s.toArray)[k]'hlt).toNat : Int)] rfl rfl (by kernel_rfl) (by kernel_rfl) (by kernel_rfl) (HM.out _) ?_
                rintro e w' ⟨rfl, rfl⟩
                refine ⟨_, rfl, h0, ?_⟩
                refine hx_take (i := 11) (oi := _) (v := .bool false) rfl rfl hns (by kernel_rfl) (by kernel_rfl) hQ (by kernel_rfl) (fun _ _ => by kernel_rfl) h0 ?_
                refine wpAnyH_done (by kernel_rfl) ?_ _
                clear hns hQ
                simp only [List.set_cons_zero, List.set_cons_succ]
                have hRk : R = k := by have h := hres.out; rw [HST.out, if_neg (by simp)] at h; omega
                have hS2 : Since W1 wr.drew := hs1r.drew
                replace c0 := (show wr.drew.heap[w.heap.size]? = _ from c0)
                replace c1 := (show wr.drew.heap[w.heap.size + 1]? = _ from c1)
                obtain rfl := hRk
                clear kc hs1r h0 hres HR hb0 hb1
                generalize wr.drew = W2 at *
                have hsub : IntKind.i64.wrap ((R : Int) - (i : Int)) = ((R - i : Nat) : Int) := by rw [IntWalk.i64_in] <;> omega
                have z0 : W2.cell? ⟨w.heap.size, 0, none⟩ = some (.int .i64 0) := cell_of_row _ _ _ _ _ _ c0
                have z1 : W2.cell? ⟨w.heap.size, 1, none⟩ = some (.string ⟨#[]⟩) := cell_of_row _ _ _ _ _ _ c0
                have z2 : W2.cell? ⟨w.heap.size, 2, none⟩ = some (.int .i64 0) := cell_of_row _ _ _ _ _ _ c0
                have y0 : W2.cell? ⟨w.heap.size + 1, 0, none⟩ = some (.int .i64 1) := cell_of_row _ _ _ _ _ _ c1
                have y1 : W2.cell? ⟨w.heap.size + 1, 1, none⟩ = some (.string ⟨#[]⟩) := cell_of_row _ _ _ _ _ _ c1
                have y2 : W2.cell? ⟨w.heap.size + 1, 2, none⟩ = some (.int .i64 (i : Int)) := cell_of_row _ _ _ _ _ _ c1
                have zf0 : W2.frozen? ⟨w.heap.size, 0, none⟩ = false := frozen_of_row _ _ _ _ _ c0
                have zf1 : W2.frozen? ⟨w.heap.size, 1, none⟩ = false := frozen_of_row _ _ _ _ _ c0
                have zf2 : W2.frozen? ⟨w.heap.size, 2, none⟩ = false := frozen_of_row _ _ _ _ _ c0
                have yf : W2.frozen? ⟨w.heap.size + 1, 1, none⟩ = false := frozen_of_row _ _ _ _ _ c1
                have zl : w.heap.size < W2.heap.size := (Array.getElem?_eq_some_iff.1 c0).1
                have yl : w.heap.size + 1 < W2.heap.size := (Array.getElem?_eq_some_iff.1 c1).1
                have hwS : w.heap.size ≤ w.heap.size + 1 := by omega
                have hm := HMid.out
                by_cases hq : 255 < R - i
                · have hq1 : (255 : Int) < ((R - i : Nat) : Int) := by omega
                  have H0 := Lib.hid c0
                  have HS2 := Lib.hid (hS.trans hS2)
                  clear c0 c1 hS2 hq
                  go_wp2_with fail
                  refine bodyPost_ret (res_tok (g := w.heap.size) rfl rfl (heap_setCell_same _ _ _ _ _ _ (heap_setCell_same _ _ _ _ _ _ (heap_setCell_same _ _ _ _ _ _ H0.out))) rfl) rfl ?_
                  exact (HP.out _ (((HS2.out.setCell (p := ⟨w.heap.size, 0, none⟩) (Nat.le_refl _) _).setCell (p := ⟨w.heap.size, 1, none⟩) (Nat.le_refl _) _).setCell (p := ⟨w.heap.size, 2, none⟩) (Nat.le_refl _) _)).1 (by omega)
                · have hq1 : ¬ (255 : Int) < ((R - i : Nat) : Int) := by omega
                  have H0 := Lib.hid c0
                  have HS2 := Lib.hid (hS.trans hS2)
                  clear c0 c1 hS2
                  go_wp2_with fail
                  refine bodyPost_ret (res_tok (g := w.heap.size) rfl rfl (heap_setCell_same _ _ _ _ _ _ (heap_setCell_same _ _ _ _ _ _ (heap_setCell_same _ _ _ _ _ _ ((heap_setCell_other _ _ _ _ (by show w.heap.size ≠ w.heap.size + 1; omega)).trans H0.out)))) rfl) rfl ?_
                  exact (HP.out _ ((((HS2.out.setCell (p := ⟨w.heap.size + 1, 1, none⟩) hwS _).setCell (p := ⟨w.heap.size, 0, none⟩) (Nat.le_refl _) _).setCell (p := ⟨w.heap.size, 1, none⟩) (Nat.le_refl _) _).setCell (p := ⟨w.heap.size, 2, none⟩) (Nat.le_refl _) _)).2 (by omega)
              · rw [hmo] at HM hst
                have HST := Lib.hid hst
                clear hst hmo
                refine hx_begin (S := fun W => Since wr W) (by kernel_rfl) h0 (by kernel_rfl) (fun _ _ _ _ _ h => h) (fun hns hQ => ?_)
                refine hx_take (i := 0) (oi := _) (v := .int .i64 (k : Int)) rfl rfl hns (by kernel_rfl) (by kernel_rfl) hQ (by kernel_rfl) (fun _ _ => by kernel_rfl) h0 ?_
                refine hx_take (i := 1) (oi := _) (v := .string ⟨s.toArray⟩) rfl rfl hns (by kernel_rfl) (by kernel_rfl) hQ (by kernel_rfl) (fun _ _ => by kernel_rfl) h0 ?_
                refine hx_take (i := 2) (oi := _) (v := .int .i64 (s.length : Int)) rfl rfl hns (by kernel_rfl) (by kernel_rfl) hQ (by kernel_rfl) (fun _ _ => by kernel_rfl) h0 ?_
                refine hx_take (i := 3) (oi := _) (v := .bool true) rfl rfl hns (by kernel_rfl) (by kernel_rfl) hQ (by kernel_rfl) (fun W _ => lss_is rfl (by kernel_rfl) (by kernel_rfl) hd W) h0 ?_
                refine hx_take (i := 4) (oi := _) (v := .bool true) rfl rfl hns (by kernel_rfl) (by kernel_rfl) hQ (by kernel_rfl) (fun _ _ => by kernel_rfl) h0 ?_
                refine hx_take (i := 5) (oi := _) (v := .pointer (some ⟨w.heap.size + 1, 0, none⟩)) rfl rfl hns (by kernel_rfl) (by kernel_rfl) hQ (by kernel_rfl) (fun _ _ => by kernel_rfl) h0 ?_
                refine hx_take (i := 6) (oi := _) (v := .int .i64 1) rfl rfl hns (by kernel_rfl) (by kernel_rfl) hQ (by kernel_rfl) (fun W hW => ld_one rfl (by kernel_rfl) (by kernel_rfl) W (hW.cell kc)) h0 ?_
                refine hx_take (i := 7) (oi := _) (v := .string ⟨s.toArray⟩) rfl rfl hns (by kernel_rfl) (by kernel_rfl) hQ (by kernel_rfl) (fun _ _ => by kernel_rfl) h0 ?_
                refine hx_take (i := 8) (oi := _) (v := .int .i64 (k : Int)) rfl rfl hns (by kernel_rfl) (by kernel_rfl) hQ (by kernel_rfl) (fun _ _ => by kernel_rfl) h0 ?_
                refine hx_take (i := 9) (oi := _) (v := .int .u8 (((ByteArray.mk s.toArray)[k]'hlt).toNat : Int)) rfl rfl hns (by kernel_rfl) (by kernel_rfl) hQ (by kernel_rfl) (fun W _ => ix_str rfl (by kernel_rfl) (by kernel_rfl) hlt W) h0 ?_
                refine hx_call (i := 10) (oi := _) 97 #[.int .i64 1, .int .u8 (((ByteArray.mk s.toArray)[k]'hlt).toNat : Int)] rfl rfl (by kernel_rfl) (by kernel_rfl) (by kernel_rfl) (HM.out _) ?_
                rintro e w' ⟨rfl, rfl⟩
                refine ⟨_, rfl, h0, ?_⟩
                refine hx_take (i := 11) (oi := _) (v := .bool true) rfl rfl hns (by kernel_rfl) (by kernel_rfl) hQ (by kernel_rfl) (fun _ _ => by kernel_rfl) h0 ?_
                refine wpAnyH_done (by kernel_rfl) ?_ _
                clear hns hQ
                simp only [List.set_cons_zero, List.set_cons_succ]
                have hres2 : Hid (R = k + 1 + runL (s.drop (k + 1)) 1) := by
                  show _ = _
                  rw [hres.out, HST.out, if_pos rfl]; omega
                go_wp2_with fail
                go_roundw
                case rel => exact ⟨k + 1, by omega, by omega, by go_num, hres2, hs1r.drew⟩
                case measure => simp [intOf]; omega
            · have hd : decide ((k : Int) < (s.length : Int)) = false := decide_eq_false (by omega)
              refine hx_begin (S := fun W => Since wr W) (by kernel_rfl) h0 (by kernel_rfl) (fun _ _ _ _ _ h => h) (fun hns hQ => ?_)
              refine hx_take (i := 0) (oi := _) (v := .int .i64 (k : Int)) rfl rfl hns (by kernel_rfl) (by kernel_rfl) hQ (by kernel_rfl) (fun _ _ => by kernel_rfl) h0 ?_
              refine hx_take (i := 1) (oi := _) (v := .string ⟨s.toArray⟩) rfl rfl hns (by kernel_rfl) (by kernel_rfl) hQ (by kernel_rfl) (fun _ _ => by kernel_rfl) h0 ?_
              refine hx_take (i := 2) (oi := _) (v := .int .i64 (s.length : Int)) rfl rfl hns (by kernel_rfl) (by kernel_rfl) hQ (by kernel_rfl) (fun _ _ => by kernel_rfl) h0 ?_
              refine hx_take (i := 3) (oi := _) (v := .bool false) rfl rfl hns (by kernel_rfl) (by kernel_rfl) hQ (by kernel_rfl) (fun W _ => lss_is rfl (by kernel_rfl) (by kernel_rfl) hd W) h0 ?_
              refine hx_take (i := 4) (oi := _) (v := .bool false) rfl rfl hns (by kernel_rfl) (by kernel_rfl) hQ (by kernel_rfl) (fun _ _ => by kernel_rfl) h0 ?_
              refine hx_off (i := 5) (oi := _) rfl rfl hns (by kernel_rfl) (by kernel_rfl) hQ (by kernel_rfl) h0 ?_
              refine hx_off (i := 6) (oi := _) rfl rfl hns (by kernel_rfl) (by kernel_rfl) hQ (by kernel_rfl) h0 ?_
              refine hx_off (i := 7) (oi := _) rfl rfl hns (by kernel_rfl) (by kernel_rfl) hQ (by kernel_rfl) h0 ?_
              refine hx_off (i := 8) (oi := _) rfl rfl hns (by kernel_rfl) (by kernel_rfl) hQ (by kernel_rfl) h0 ?_
              refine hx_off (i := 9) (oi := _) rfl rfl hns (by kernel_rfl) (by kernel_rfl) hQ (by kernel_rfl) h0 ?_
              refine hx_off (i := 10) (oi := _) rfl rfl hns (by kernel_rfl) (by kernel_rfl) hQ (by kernel_rfl) h0 ?_
              refine hx_take (i := 11) (oi := _) (v := .bool false) rfl rfl hns (by kernel_rfl) (by kernel_rfl) hQ (by kernel_rfl) (fun _ _ => by kernel_rfl) h0 ?_
              refine wpAnyH_done (by kernel_rfl) ?_ _
              clear hns hQ
              simp only [List.set_cons_zero, List.set_cons_succ]
              have hRk : R = k := by have h := hres.out; rw [List.drop_eq_nil_of_le (by omega)] at h; exact h
              have hS2 : Since W1 wr.drew := hs1r.drew
              replace c0 := (show wr.drew.heap[w.heap.size]? = _ from c0)
              replace c1 := (show wr.drew.heap[w.heap.size + 1]? = _ from c1)
              obtain rfl := hRk
              clear kc hs1r h0 hres HR hb0 hb1
              generalize wr.drew = W2 at *
              have hsub : IntKind.i64.wrap ((R : Int) - (i : Int)) = ((R - i : Nat) : Int) := by rw [IntWalk.i64_in] <;> omega
              have z0 : W2.cell? ⟨w.heap.size, 0, none⟩ = some (.int .i64 0) := cell_of_row _ _ _ _ _ _ c0
              have z1 : W2.cell? ⟨w.heap.size, 1, none⟩ = some (.string ⟨#[]⟩) := cell_of_row _ _ _ _ _ _ c0
              have z2 : W2.cell? ⟨w.heap.size, 2, none⟩ = some (.int .i64 0) := cell_of_row _ _ _ _ _ _ c0
              have y0 : W2.cell? ⟨w.heap.size + 1, 0, none⟩ = some (.int .i64 1) := cell_of_row _ _ _ _ _ _ c1
              have y1 : W2.cell? ⟨w.heap.size + 1, 1, none⟩ = some (.string ⟨#[]⟩) := cell_of_row _ _ _ _ _ _ c1
              have y2 : W2.cell? ⟨w.heap.size + 1, 2, none⟩ = some (.int .i64 (i : Int)) := cell_of_row _ _ _ _ _ _ c1
              have zf0 : W2.frozen? ⟨w.heap.size, 0, none⟩ = false := frozen_of_row _ _ _ _ _ c0
              have zf1 : W2.frozen? ⟨w.heap.size, 1, none⟩ = false := frozen_of_row _ _ _ _ _ c0
              have zf2 : W2.frozen? ⟨w.heap.size, 2, none⟩ = false := frozen_of_row _ _ _ _ _ c0
              have yf : W2.frozen? ⟨w.heap.size + 1, 1, none⟩ = false := frozen_of_row _ _ _ _ _ c1
              have zl : w.heap.size < W2.heap.size := (Array.getElem?_eq_some_iff.1 c0).1
              have yl : w.heap.size + 1 < W2.heap.size := (Array.getElem?_eq_some_iff.1 c1).1
              have hwS : w.heap.size ≤ w.heap.size + 1 := by omega
              have hm := HMid.out
              by_cases hq : 255 < R - i
              · have hq1 : (255 : Int) < ((R - i : Nat) : Int) := by omega
                have H0 := Lib.hid c0
                have HS2 := Lib.hid (hS.trans hS2)
                clear c0 c1 hS2 hq
                go_wp2_with fail
                refine bodyPost_ret (res_tok (g := w.heap.size) rfl rfl (heap_setCell_same _ _ _ _ _ _ (heap_setCell_same _ _ _ _ _ _ (heap_setCell_same _ _ _ _ _ _ H0.out))) rfl) rfl ?_
                exact (HP.out _ (((HS2.out.setCell (p := ⟨w.heap.size, 0, none⟩) (Nat.le_refl _) _).setCell (p := ⟨w.heap.size, 1, none⟩) (Nat.le_refl _) _).setCell (p := ⟨w.heap.size, 2, none⟩) (Nat.le_refl _) _)).1 (by omega)
              · have hq1 : ¬ (255 : Int) < ((R - i : Nat) : Int) := by omega
                have H0 := Lib.hid c0
                have HS2 := Lib.hid (hS.trans hS2)
                clear c0 c1 hS2
                go_wp2_with fail
                refine bodyPost_ret (res_tok (g := w.heap.size) rfl rfl (heap_setCell_same _ _ _ _ _ _ (heap_setCell_same _ _ _ _ _ _ (heap_setCell_same _ _ _ _ _ _ ((heap_setCell_other _ _ _ _ (by show w.heap.size ≠ w.heap.size + 1; omega)).trans H0.out)))) rfl) rfl ?_
                exact (HP.out _ ((((HS2.out.setCell (p := ⟨w.heap.size + 1, 1, none⟩) hwS _).setCell (p := ⟨w.heap.size, 0, none⟩) (Nat.le_refl _) _).setCell (p := ⟨w.heap.size, 1, none⟩) (Nat.le_refl _) _).setCell (p := ⟨w.heap.size, 2, none⟩) (Nat.le_refl _) _)).2 (by omega)
        · have hm2 : True := trivial
          have ht := tok_first hi hs1 hg1 hf1
          obtain ⟨R, hR⟩ : ∃ R, Hid (R = i + runL (s.drop i) 1) := ⟨_, rfl⟩
          have hRl : R ≤ s.length := by
            have := runL_le (s.drop i) 1
            rw [List.length_drop] at this
            have := hR.out
            omega
          have hRi : i ≤ R := by have := hR.out; omega
          have hr9 : runL (s.drop i) 1 = R - i := by have := hR.out; omega
          rw [← hR.out, hr9] at ht
          have hP : ∀ W, Since w W → (255 < R - i → RtPost s i w (.returned (.tuple #[.agg #[.int .i64 0, .string ⟨#[]⟩, .int .i64 0], .int .i64 4])) W) ∧ (R - i ≤ 255 → RtPost s i w (.returned (.tuple #[.agg #[.int .i64 1, .string ⟨((s.take R).drop i).toArray⟩, .int .i64 (i : Int)], .int .i64 0])) W) := fun W h => by
            refine ⟨fun hq => ⟨h, ?_⟩, fun hq => ⟨h, ?_⟩⟩
            · rw [ht, if_neg (by omega)]
            · rw [ht, if_pos hq]
          have HP := Lib.hid hP
          have hm : ∀ W, (Instr.slice 9 (.string ⟨s.toArray⟩) (some (.int .i64 i)) (some (.int .i64 R)) none).run Tryz.prog W = .ok (.string ⟨((s.take R).drop i).toArray⟩) W := fun W => run_mid hRi hRl W
          have HR := Lib.hid hR.out
          have HMid := Lib.hid hm
          generalize (s.take R).drop i = T at *
          clear hP ht hr9 hR hm
          clear hf1
          go_enter Tryz.func71, Tryz.ntmps71
          go_wp2_with (first | (go_at_call 96; refine (rin_sign _ _).mono ?_; rintro e w' ⟨rfl, rfl⟩) | (go_at_call 95; refine (rGreat_any _ _).mono ?_; rintro e w' ⟨rfl, rfl⟩) | (go_at_call 43; refine (rSmall_any _ _).mono ?_; rintro e w' ⟨rfl, rfl⟩) | (go_at_call 93; refine (rDigit_any _ _).mono ?_; rintro e w' ⟨rfl, rfl⟩))
          clear hS hm1 hm2 hs1 hg1
          have hS : Since w ((w.alloc (.cells #[.int .i64 0, .string ⟨#[]⟩, .int .i64 0] 63)).alloc (.cells #[.int .i64 1, .string ⟨#[]⟩, .int .i64 (i : Int)] 63)) := ((Since.refl w).alloc _).alloc _
          have hb0 : ((w.alloc (.cells #[.int .i64 0, .string ⟨#[]⟩, .int .i64 0] 63)).alloc (.cells #[.int .i64 1, .string ⟨#[]⟩, .int .i64 (i : Int)] 63)).heap[w.heap.size]? = some (.cells #[.int .i64 0, .string ⟨#[]⟩, .int .i64 0] 63 (0, 0)) := blk_alloc (heap_alloc_new _ _) _
          have hb1 : ((w.alloc (.cells #[.int .i64 0, .string ⟨#[]⟩, .int .i64 0] 63)).alloc (.cells #[.int .i64 1, .string ⟨#[]⟩, .int .i64 (i : Int)] 63)).heap[w.heap.size + 1]? = some (.cells #[.int .i64 1, .string ⟨#[]⟩, .int .i64 (i : Int)] 63 (0, 0)) := heap_alloc2_new _ _ _
          generalize (w.alloc (.cells #[.int .i64 0, .string ⟨#[]⟩, .int .i64 0] 63)).alloc (.cells #[.int .i64 1, .string ⟨#[]⟩, .int .i64 (i : Int)] 63) = W1 at *
          go_loopw [7] (fun m wr => ∃ k : Nat, i ≤ k ∧ k ≤ s.length ∧ m = .int .i64 (k : Int) ∧ Hid (R = k + runL (s.drop k) 1) ∧ Since W1 wr) (fun m _ => s.length - (intOf m).toNat)
          case atStart => exact ⟨i, by omega, by omega, rfl, HR.out, Since.refl _⟩
          case round =>
            obtain ⟨k, hik, hk, rfl, hres, hs1r⟩ := hrel
            have c0 : wr.heap[w.heap.size]? = some (.cells #[.int .i64 0, .string ⟨#[]⟩, .int .i64 0] 63 (0, 0)) := (Below.block hs1r _ (Array.getElem?_eq_some_iff.1 hb0).1).trans hb0
            have c1 : wr.heap[w.heap.size + 1]? = some (.cells #[.int .i64 1, .string ⟨#[]⟩, .int .i64 (i : Int)] 63 (0, 0)) := (Below.block hs1r _ (Array.getElem?_eq_some_iff.1 hb1).1).trans hb1
            have kc : wr.cell? ⟨w.heap.size + 1, 0, none⟩ = some (.int .i64 1) := cell_of_row _ _ _ _ _ _ c1
            go_wp2_with fail
            have h0 := (Since.refl wr).drew
            by_cases hlt : k < s.length
            · have hst := run_step (tok := 1) hlt
              have hd : decide ((k : Int) < (s.length : Int)) = true := decide_eq_true (by omega)
              have HM : Hid (∀ W, Calls Tryz.prog 97 #[.int .i64 1, .int .u8 (((ByteArray.mk s.toArray)[k]'hlt).toNat : Int)] W fun e w' => e = .returned (.bool (moreB ((1 : Int) == 2) (((ByteArray.mk s.toArray)[k]'hlt).toNat : Int))) ∧ W = w') := fun W => rmore_any _ _ W
              cases hmo : moreB ((1 : Int) == 2) (((ByteArray.mk s.toArray)[k]'hlt).toNat : Int)
              · rw [hmo] at HM hst
                have HST := Lib.hid hst
                clear hst hmo
                refine hx_begin (S := fun W => Since wr W) (by kernel_rfl) h0 (by kernel_rfl) (fun _ _ _ _ _ h => h) (fun hns hQ => ?_)
                refine hx_take (i := 0) (oi := _) (v := .int .i64 (k : Int)) rfl rfl hns (by kernel_rfl) (by kernel_rfl) hQ (by kernel_rfl) (fun _ _ => by kernel_rfl) h0 ?_
                refine hx_take (i := 1) (oi := _) (v := .string ⟨s.toArray⟩) rfl rfl hns (by kernel_rfl) (by kernel_rfl) hQ (by kernel_rfl) (fun _ _ => by kernel_rfl) h0 ?_
                refine hx_take (i := 2) (oi := _) (v := .int .i64 (s.length : Int)) rfl rfl hns (by kernel_rfl) (by kernel_rfl) hQ (by kernel_rfl) (fun _ _ => by kernel_rfl) h0 ?_
                refine hx_take (i := 3) (oi := _) (v := .bool true) rfl rfl hns (by kernel_rfl) (by kernel_rfl) hQ (by kernel_rfl) (fun W _ => lss_is rfl (by kernel_rfl) (by kernel_rfl) hd W) h0 ?_
                refine hx_take (i := 4) (oi := _) (v := .bool true) rfl rfl hns (by kernel_rfl) (by kernel_rfl) hQ (by kernel_rfl) (fun _ _ => by kernel_rfl) h0 ?_
                refine hx_take (i := 5) (oi := _) (v := .pointer (some ⟨w.heap.size + 1, 0, none⟩)) rfl rfl hns (by kernel_rfl) (by kernel_rfl) hQ (by kernel_rfl) (fun _ _ => by kernel_rfl) h0 ?_
                refine hx_take (i := 6) (oi := _) (v := .int .i64 1) rfl rfl hns (by kernel_rfl) (by kernel_rfl) hQ (by kernel_rfl) (fun W hW => ld_one rfl (by kernel_rfl) (by kernel_rfl) W (hW.cell kc)) h0 ?_
                refine hx_take (i := 7) (oi := _) (v := .string ⟨s.toArray⟩) rfl rfl hns (by kernel_rfl) (by kernel_rfl) hQ (by kernel_rfl) (fun _ _ => by kernel_rfl) h0 ?_
                refine hx_take (i := 8) (oi := _) (v := .int .i64 (k : Int)) rfl rfl hns (by kernel_rfl) (by kernel_rfl) hQ (by kernel_rfl) (fun _ _ => by kernel_rfl) h0 ?_
                refine hx_take (i := 9) (oi := _) (v := .int .u8 (((ByteArray.mk s.toArray)[k]'hlt).toNat : Int)) rfl rfl hns (by kernel_rfl) (by kernel_rfl) hQ (by kernel_rfl) (fun W _ => ix_str rfl (by kernel_rfl) (by kernel_rfl) hlt W) h0 ?_
                refine hx_call (i := 10) (oi := _) 97 #[.int .i64 1, .int .u8 (((ByteArray.mk s.toArray)[k]'hlt).toNat : Int)] rfl rfl (by kernel_rfl) (by kernel_rfl) (by kernel_rfl) (HM.out _) ?_
                rintro e w' ⟨rfl, rfl⟩
                refine ⟨_, rfl, h0, ?_⟩
                refine hx_take (i := 11) (oi := _) (v := .bool false) rfl rfl hns (by kernel_rfl) (by kernel_rfl) hQ (by kernel_rfl) (fun _ _ => by kernel_rfl) h0 ?_
                refine wpAnyH_done (by kernel_rfl) ?_ _
                clear hns hQ
                simp only [List.set_cons_zero, List.set_cons_succ]
                have hRk : R = k := by have h := hres.out; rw [HST.out, if_neg (by simp)] at h; omega
                have hS2 : Since W1 wr.drew := hs1r.drew
                replace c0 := (show wr.drew.heap[w.heap.size]? = _ from c0)
                replace c1 := (show wr.drew.heap[w.heap.size + 1]? = _ from c1)
                obtain rfl := hRk
                clear kc hs1r h0 hres HR hb0 hb1
                generalize wr.drew = W2 at *
                have hsub : IntKind.i64.wrap ((R : Int) - (i : Int)) = ((R - i : Nat) : Int) := by rw [IntWalk.i64_in] <;> omega
                have z0 : W2.cell? ⟨w.heap.size, 0, none⟩ = some (.int .i64 0) := cell_of_row _ _ _ _ _ _ c0
                have z1 : W2.cell? ⟨w.heap.size, 1, none⟩ = some (.string ⟨#[]⟩) := cell_of_row _ _ _ _ _ _ c0
                have z2 : W2.cell? ⟨w.heap.size, 2, none⟩ = some (.int .i64 0) := cell_of_row _ _ _ _ _ _ c0
                have y0 : W2.cell? ⟨w.heap.size + 1, 0, none⟩ = some (.int .i64 1) := cell_of_row _ _ _ _ _ _ c1
                have y1 : W2.cell? ⟨w.heap.size + 1, 1, none⟩ = some (.string ⟨#[]⟩) := cell_of_row _ _ _ _ _ _ c1
                have y2 : W2.cell? ⟨w.heap.size + 1, 2, none⟩ = some (.int .i64 (i : Int)) := cell_of_row _ _ _ _ _ _ c1
                have zf0 : W2.frozen? ⟨w.heap.size, 0, none⟩ = false := frozen_of_row _ _ _ _ _ c0
                have zf1 : W2.frozen? ⟨w.heap.size, 1, none⟩ = false := frozen_of_row _ _ _ _ _ c0
                have zf2 : W2.frozen? ⟨w.heap.size, 2, none⟩ = false := frozen_of_row _ _ _ _ _ c0
                have yf : W2.frozen? ⟨w.heap.size + 1, 1, none⟩ = false := frozen_of_row _ _ _ _ _ c1
                have zl : w.heap.size < W2.heap.size := (Array.getElem?_eq_some_iff.1 c0).1
                have yl : w.heap.size + 1 < W2.heap.size := (Array.getElem?_eq_some_iff.1 c1).1
                have hwS : w.heap.size ≤ w.heap.size + 1 := by omega
                have hm := HMid.out
                by_cases hq : 255 < R - i
                · have hq1 : (255 : Int) < ((R - i : Nat) : Int) := by omega
                  have H0 := Lib.hid c0
                  have HS2 := Lib.hid (hS.trans hS2)
                  clear c0 c1 hS2 hq
                  go_wp2_with fail
                  refine bodyPost_ret (res_tok (g := w.heap.size) rfl rfl (heap_setCell_same _ _ _ _ _ _ (heap_setCell_same _ _ _ _ _ _ (heap_setCell_same _ _ _ _ _ _ H0.out))) rfl) rfl ?_
                  exact (HP.out _ (((HS2.out.setCell (p := ⟨w.heap.size, 0, none⟩) (Nat.le_refl _) _).setCell (p := ⟨w.heap.size, 1, none⟩) (Nat.le_refl _) _).setCell (p := ⟨w.heap.size, 2, none⟩) (Nat.le_refl _) _)).1 (by omega)
                · have hq1 : ¬ (255 : Int) < ((R - i : Nat) : Int) := by omega
                  have H0 := Lib.hid c0
                  have HS2 := Lib.hid (hS.trans hS2)
                  clear c0 c1 hS2
                  go_wp2_with fail
                  refine bodyPost_ret (res_tok (g := w.heap.size) rfl rfl (heap_setCell_same _ _ _ _ _ _ (heap_setCell_same _ _ _ _ _ _ (heap_setCell_same _ _ _ _ _ _ ((heap_setCell_other _ _ _ _ (by show w.heap.size ≠ w.heap.size + 1; omega)).trans H0.out)))) rfl) rfl ?_
                  exact (HP.out _ ((((HS2.out.setCell (p := ⟨w.heap.size + 1, 1, none⟩) hwS _).setCell (p := ⟨w.heap.size, 0, none⟩) (Nat.le_refl _) _).setCell (p := ⟨w.heap.size, 1, none⟩) (Nat.le_refl _) _).setCell (p := ⟨w.heap.size, 2, none⟩) (Nat.le_refl _) _)).2 (by omega)
              · rw [hmo] at HM hst
                have HST := Lib.hid hst
                clear hst hmo
                refine hx_begin (S := fun W => Since wr W) (by kernel_rfl) h0 (by kernel_rfl) (fun _ _ _ _ _ h => h) (fun hns hQ => ?_)
                refine hx_take (i := 0) (oi := _) (v := .int .i64 (k : Int)) rfl rfl hns (by kernel_rfl) (by kernel_rfl) hQ (by kernel_rfl) (fun _ _ => by kernel_rfl) h0 ?_
                refine hx_take (i := 1) (oi := _) (v := .string ⟨s.toArray⟩) rfl rfl hns (by kernel_rfl) (by kernel_rfl) hQ (by kernel_rfl) (fun _ _ => by kernel_rfl) h0 ?_
                refine hx_take (i := 2) (oi := _) (v := .int .i64 (s.length : Int)) rfl rfl hns (by kernel_rfl) (by kernel_rfl) hQ (by kernel_rfl) (fun _ _ => by kernel_rfl) h0 ?_
                refine hx_take (i := 3) (oi := _) (v := .bool true) rfl rfl hns (by kernel_rfl) (by kernel_rfl) hQ (by kernel_rfl) (fun W _ => lss_is rfl (by kernel_rfl) (by kernel_rfl) hd W) h0 ?_
                refine hx_take (i := 4) (oi := _) (v := .bool true) rfl rfl hns (by kernel_rfl) (by kernel_rfl) hQ (by kernel_rfl) (fun _ _ => by kernel_rfl) h0 ?_
                refine hx_take (i := 5) (oi := _) (v := .pointer (some ⟨w.heap.size + 1, 0, none⟩)) rfl rfl hns (by kernel_rfl) (by kernel_rfl) hQ (by kernel_rfl) (fun _ _ => by kernel_rfl) h0 ?_
                refine hx_take (i := 6) (oi := _) (v := .int .i64 1) rfl rfl hns (by kernel_rfl) (by kernel_rfl) hQ (by kernel_rfl) (fun W hW => ld_one rfl (by kernel_rfl) (by kernel_rfl) W (hW.cell kc)) h0 ?_
                refine hx_take (i := 7) (oi := _) (v := .string ⟨s.toArray⟩) rfl rfl hns (by kernel_rfl) (by kernel_rfl) hQ (by kernel_rfl) (fun _ _ => by kernel_rfl) h0 ?_
                refine hx_take (i := 8) (oi := _) (v := .int .i64 (k : Int)) rfl rfl hns (by kernel_rfl) (by kernel_rfl) hQ (by kernel_rfl) (fun _ _ => by kernel_rfl) h0 ?_
                refine hx_take (i := 9) (oi := _) (v := .int .u8 (((ByteArray.mk s.toArray)[k]'hlt).toNat : Int)) rfl rfl hns (by kernel_rfl) (by kernel_rfl) hQ (by kernel_rfl) (fun W _ => ix_str rfl (by kernel_rfl) (by kernel_rfl) hlt W) h0 ?_
                refine hx_call (i := 10) (oi := _) 97 #[.int .i64 1, .int .u8 (((ByteArray.mk s.toArray)[k]'hlt).toNat : Int)] rfl rfl (by kernel_rfl) (by kernel_rfl) (by kernel_rfl) (HM.out _) ?_
                rintro e w' ⟨rfl, rfl⟩
                refine ⟨_, rfl, h0, ?_⟩
                refine hx_take (i := 11) (oi := _) (v := .bool true) rfl rfl hns (by kernel_rfl) (by kernel_rfl) hQ (by kernel_rfl) (fun _ _ => by kernel_rfl) h0 ?_
                refine wpAnyH_done (by kernel_rfl) ?_ _
                clear hns hQ
                simp only [List.set_cons_zero, List.set_cons_succ]
                have hres2 : Hid (R = k + 1 + runL (s.drop (k + 1)) 1) := by
                  show _ = _
                  rw [hres.out, HST.out, if_pos rfl]; omega
                go_wp2_with fail
                go_roundw
                case rel => exact ⟨k + 1, by omega, by omega, by go_num, hres2, hs1r.drew⟩
                case measure => simp [intOf]; omega
            · have hd : decide ((k : Int) < (s.length : Int)) = false := decide_eq_false (by omega)
              refine hx_begin (S := fun W => Since wr W) (by kernel_rfl) h0 (by kernel_rfl) (fun _ _ _ _ _ h => h) (fun hns hQ => ?_)
              refine hx_take (i := 0) (oi := _) (v := .int .i64 (k : Int)) rfl rfl hns (by kernel_rfl) (by kernel_rfl) hQ (by kernel_rfl) (fun _ _ => by kernel_rfl) h0 ?_
              refine hx_take (i := 1) (oi := _) (v := .string ⟨s.toArray⟩) rfl rfl hns (by kernel_rfl) (by kernel_rfl) hQ (by kernel_rfl) (fun _ _ => by kernel_rfl) h0 ?_
              refine hx_take (i := 2) (oi := _) (v := .int .i64 (s.length : Int)) rfl rfl hns (by kernel_rfl) (by kernel_rfl) hQ (by kernel_rfl) (fun _ _ => by kernel_rfl) h0 ?_
              refine hx_take (i := 3) (oi := _) (v := .bool false) rfl rfl hns (by kernel_rfl) (by kernel_rfl) hQ (by kernel_rfl) (fun W _ => lss_is rfl (by kernel_rfl) (by kernel_rfl) hd W) h0 ?_
              refine hx_take (i := 4) (oi := _) (v := .bool false) rfl rfl hns (by kernel_rfl) (by kernel_rfl) hQ (by kernel_rfl) (fun _ _ => by kernel_rfl) h0 ?_
              refine hx_off (i := 5) (oi := _) rfl rfl hns (by kernel_rfl) (by kernel_rfl) hQ (by kernel_rfl) h0 ?_
              refine hx_off (i := 6) (oi := _) rfl rfl hns (by kernel_rfl) (by kernel_rfl) hQ (by kernel_rfl) h0 ?_
              refine hx_off (i := 7) (oi := _) rfl rfl hns (by kernel_rfl) (by kernel_rfl) hQ (by kernel_rfl) h0 ?_
              refine hx_off (i := 8) (oi := _) rfl rfl hns (by kernel_rfl) (by kernel_rfl) hQ (by kernel_rfl) h0 ?_
              refine hx_off (i := 9) (oi := _) rfl rfl hns (by kernel_rfl) (by kernel_rfl) hQ (by kernel_rfl) h0 ?_
              refine hx_off (i := 10) (oi := _) rfl rfl hns (by kernel_rfl) (by kernel_rfl) hQ (by kernel_rfl) h0 ?_
              refine hx_take (i := 11) (oi := _) (v := .bool false) rfl rfl hns (by kernel_rfl) (by kernel_rfl) hQ (by kernel_rfl) (fun _ _ => by kernel_rfl) h0 ?_
              refine wpAnyH_done (by kernel_rfl) ?_ _
              clear hns hQ
              simp only [List.set_cons_zero, List.set_cons_succ]
              have hRk : R = k := by have h := hres.out; rw [List.drop_eq_nil_of_le (by omega)] at h; exact h
              have hS2 : Since W1 wr.drew := hs1r.drew
              replace c0 := (show wr.drew.heap[w.heap.size]? = _ from c0)
              replace c1 := (show wr.drew.heap[w.heap.size + 1]? = _ from c1)
              obtain rfl := hRk
              clear kc hs1r h0 hres HR hb0 hb1
              generalize wr.drew = W2 at *
              have hsub : IntKind.i64.wrap ((R : Int) - (i : Int)) = ((R - i : Nat) : Int) := by rw [IntWalk.i64_in] <;> omega
              have z0 : W2.cell? ⟨w.heap.size, 0, none⟩ = some (.int .i64 0) := cell_of_row _ _ _ _ _ _ c0
              have z1 : W2.cell? ⟨w.heap.size, 1, none⟩ = some (.string ⟨#[]⟩) := cell_of_row _ _ _ _ _ _ c0
              have z2 : W2.cell? ⟨w.heap.size, 2, none⟩ = some (.int .i64 0) := cell_of_row _ _ _ _ _ _ c0
              have y0 : W2.cell? ⟨w.heap.size + 1, 0, none⟩ = some (.int .i64 1) := cell_of_row _ _ _ _ _ _ c1
              have y1 : W2.cell? ⟨w.heap.size + 1, 1, none⟩ = some (.string ⟨#[]⟩) := cell_of_row _ _ _ _ _ _ c1
              have y2 : W2.cell? ⟨w.heap.size + 1, 2, none⟩ = some (.int .i64 (i : Int)) := cell_of_row _ _ _ _ _ _ c1
              have zf0 : W2.frozen? ⟨w.heap.size, 0, none⟩ = false := frozen_of_row _ _ _ _ _ c0
              have zf1 : W2.frozen? ⟨w.heap.size, 1, none⟩ = false := frozen_of_row _ _ _ _ _ c0
              have zf2 : W2.frozen? ⟨w.heap.size, 2, none⟩ = false := frozen_of_row _ _ _ _ _ c0
              have yf : W2.frozen? ⟨w.heap.size + 1, 1, none⟩ = false := frozen_of_row _ _ _ _ _ c1
              have zl : w.heap.size < W2.heap.size := (Array.getElem?_eq_some_iff.1 c0).1
              have yl : w.heap.size + 1 < W2.heap.size := (Array.getElem?_eq_some_iff.1 c1).1
              have hwS : w.heap.size ≤ w.heap.size + 1 := by omega
              have hm := HMid.out
              by_cases hq : 255 < R - i
              · have hq1 : (255 : Int) < ((R - i : Nat) : Int) := by omega
                have H0 := Lib.hid c0
                have HS2 := Lib.hid (hS.trans hS2)
                clear c0 c1 hS2 hq
                go_wp2_with fail
                refine bodyPost_ret (res_tok (g := w.heap.size) rfl rfl (heap_setCell_same _ _ _ _ _ _ (heap_setCell_same _ _ _ _ _ _ (heap_setCell_same _ _ _ _ _ _ H0.out))) rfl) rfl ?_
                exact (HP.out _ (((HS2.out.setCell (p := ⟨w.heap.size, 0, none⟩) (Nat.le_refl _) _).setCell (p := ⟨w.heap.size, 1, none⟩) (Nat.le_refl _) _).setCell (p := ⟨w.heap.size, 2, none⟩) (Nat.le_refl _) _)).1 (by omega)
              · have hq1 : ¬ (255 : Int) < ((R - i : Nat) : Int) := by omega
                have H0 := Lib.hid c0
                have HS2 := Lib.hid (hS.trans hS2)
                clear c0 c1 hS2
                go_wp2_with fail
                refine bodyPost_ret (res_tok (g := w.heap.size) rfl rfl (heap_setCell_same _ _ _ _ _ _ (heap_setCell_same _ _ _ _ _ _ (heap_setCell_same _ _ _ _ _ _ ((heap_setCell_other _ _ _ _ (by show w.heap.size ≠ w.heap.size + 1; omega)).trans H0.out)))) rfl) rfl ?_
                exact (HP.out _ ((((HS2.out.setCell (p := ⟨w.heap.size + 1, 1, none⟩) hwS _).setCell (p := ⟨w.heap.size, 0, none⟩) (Nat.le_refl _) _).setCell (p := ⟨w.heap.size, 1, none⟩) (Nat.le_refl _) _).setCell (p := ⟨w.heap.size, 2, none⟩) (Nat.le_refl _) _)).2 (by omega)
    · have ht := tok_great hi hs1 hg1
      obtain ⟨R, hR⟩ : ∃ R, Hid (R = i + runL (s.drop i) 2) := ⟨_, rfl⟩
      have hRl : R ≤ s.length := by
        have := runL_le (s.drop i) 2
        rw [List.length_drop] at this
        have := hR.out
        omega
      have hRi : i ≤ R := by have := hR.out; omega
      have hr9 : runL (s.drop i) 2 = R - i := by have := hR.out; omega
      rw [← hR.out, hr9] at ht
      have hP : ∀ W, Since w W → (255 < R - i → RtPost s i w (.returned (.tuple #[.agg #[.int .i64 0, .string ⟨#[]⟩, .int .i64 0], .int .i64 4])) W) ∧ (R - i ≤ 255 → RtPost s i w (.returned (.tuple #[.agg #[.int .i64 2, .string ⟨((s.take R).drop i).toArray⟩, .int .i64 (i : Int)], .int .i64 0])) W) := fun W h => by
        refine ⟨fun hq => ⟨h, ?_⟩, fun hq => ⟨h, ?_⟩⟩
        · rw [ht, if_neg (by omega)]
        · rw [ht, if_pos hq]
      have HP := Lib.hid hP
      have hm : ∀ W, (Instr.slice 9 (.string ⟨s.toArray⟩) (some (.int .i64 i)) (some (.int .i64 R)) none).run Tryz.prog W = .ok (.string ⟨((s.take R).drop i).toArray⟩) W := fun W => run_mid hRi hRl W
      have HR := Lib.hid hR.out
      have HMid := Lib.hid hm
      generalize (s.take R).drop i = T at *
      clear hP ht hr9 hR hm
      go_enter Tryz.func71, Tryz.ntmps71
      go_wp2_with (first | (go_at_call 96; refine (rin_sign _ _).mono ?_; rintro e w' ⟨rfl, rfl⟩) | (go_at_call 95; refine (rGreat_any _ _).mono ?_; rintro e w' ⟨rfl, rfl⟩))
      clear hS hs1 hg1
      have hS : Since w ((w.alloc (.cells #[.int .i64 0, .string ⟨#[]⟩, .int .i64 0] 63)).alloc (.cells #[.int .i64 2, .string ⟨#[]⟩, .int .i64 (i : Int)] 63)) := ((Since.refl w).alloc _).alloc _
      have hb0 : ((w.alloc (.cells #[.int .i64 0, .string ⟨#[]⟩, .int .i64 0] 63)).alloc (.cells #[.int .i64 2, .string ⟨#[]⟩, .int .i64 (i : Int)] 63)).heap[w.heap.size]? = some (.cells #[.int .i64 0, .string ⟨#[]⟩, .int .i64 0] 63 (0, 0)) := blk_alloc (heap_alloc_new _ _) _
      have hb1 : ((w.alloc (.cells #[.int .i64 0, .string ⟨#[]⟩, .int .i64 0] 63)).alloc (.cells #[.int .i64 2, .string ⟨#[]⟩, .int .i64 (i : Int)] 63)).heap[w.heap.size + 1]? = some (.cells #[.int .i64 2, .string ⟨#[]⟩, .int .i64 (i : Int)] 63 (0, 0)) := heap_alloc2_new _ _ _
      generalize (w.alloc (.cells #[.int .i64 0, .string ⟨#[]⟩, .int .i64 0] 63)).alloc (.cells #[.int .i64 2, .string ⟨#[]⟩, .int .i64 (i : Int)] 63) = W1 at *
      go_loopw [7] (fun m wr => ∃ k : Nat, i ≤ k ∧ k ≤ s.length ∧ m = .int .i64 (k : Int) ∧ Hid (R = k + runL (s.drop k) 2) ∧ Since W1 wr) (fun m _ => s.length - (intOf m).toNat)
      case atStart => exact ⟨i, by omega, by omega, rfl, HR.out, Since.refl _⟩
      case round =>
        obtain ⟨k, hik, hk, rfl, hres, hs1r⟩ := hrel
        have c0 : wr.heap[w.heap.size]? = some (.cells #[.int .i64 0, .string ⟨#[]⟩, .int .i64 0] 63 (0, 0)) := (Below.block hs1r _ (Array.getElem?_eq_some_iff.1 hb0).1).trans hb0
        have c1 : wr.heap[w.heap.size + 1]? = some (.cells #[.int .i64 2, .string ⟨#[]⟩, .int .i64 (i : Int)] 63 (0, 0)) := (Below.block hs1r _ (Array.getElem?_eq_some_iff.1 hb1).1).trans hb1
        have kc : wr.cell? ⟨w.heap.size + 1, 0, none⟩ = some (.int .i64 2) := cell_of_row _ _ _ _ _ _ c1
        go_wp2_with fail
        have h0 := (Since.refl wr).drew
        by_cases hlt : k < s.length
        · have hst := run_step (tok := 2) hlt
          have hd : decide ((k : Int) < (s.length : Int)) = true := decide_eq_true (by omega)
          have HM : Hid (∀ W, Calls Tryz.prog 97 #[.int .i64 2, .int .u8 (((ByteArray.mk s.toArray)[k]'hlt).toNat : Int)] W fun e w' => e = .returned (.bool (moreB ((2 : Int) == 2) (((ByteArray.mk s.toArray)[k]'hlt).toNat : Int))) ∧ W = w') := fun W => rmore_any _ _ W
          cases hmo : moreB ((2 : Int) == 2) (((ByteArray.mk s.toArray)[k]'hlt).toNat : Int)
          · rw [hmo] at HM hst
            have HST := Lib.hid hst
            clear hst hmo
            refine hx_begin (S := fun W => Since wr W) (by kernel_rfl) h0 (by kernel_rfl) (fun _ _ _ _ _ h => h) (fun hns hQ => ?_)
            refine hx_take (i := 0) (oi := _) (v := .int .i64 (k : Int)) rfl rfl hns (by kernel_rfl) (by kernel_rfl) hQ (by kernel_rfl) (fun _ _ => by kernel_rfl) h0 ?_
            refine hx_take (i := 1) (oi := _) (v := .string ⟨s.toArray⟩) rfl rfl hns (by kernel_rfl) (by kernel_rfl) hQ (by kernel_rfl) (fun _ _ => by kernel_rfl) h0 ?_
            refine hx_take (i := 2) (oi := _) (v := .int .i64 (s.length : Int)) rfl rfl hns (by kernel_rfl) (by kernel_rfl) hQ (by kernel_rfl) (fun _ _ => by kernel_rfl) h0 ?_
            refine hx_take (i := 3) (oi := _) (v := .bool true) rfl rfl hns (by kernel_rfl) (by kernel_rfl) hQ (by kernel_rfl) (fun W _ => lss_is rfl (by kernel_rfl) (by kernel_rfl) hd W) h0 ?_
            refine hx_take (i := 4) (oi := _) (v := .bool true) rfl rfl hns (by kernel_rfl) (by kernel_rfl) hQ (by kernel_rfl) (fun _ _ => by kernel_rfl) h0 ?_
            refine hx_take (i := 5) (oi := _) (v := .pointer (some ⟨w.heap.size + 1, 0, none⟩)) rfl rfl hns (by kernel_rfl) (by kernel_rfl) hQ (by kernel_rfl) (fun _ _ => by kernel_rfl) h0 ?_
            refine hx_take (i := 6) (oi := _) (v := .int .i64 2) rfl rfl hns (by kernel_rfl) (by kernel_rfl) hQ (by kernel_rfl) (fun W hW => ld_one rfl (by kernel_rfl) (by kernel_rfl) W (hW.cell kc)) h0 ?_
            refine hx_take (i := 7) (oi := _) (v := .string ⟨s.toArray⟩) rfl rfl hns (by kernel_rfl) (by kernel_rfl) hQ (by kernel_rfl) (fun _ _ => by kernel_rfl) h0 ?_
            refine hx_take (i := 8) (oi := _) (v := .int .i64 (k : Int)) rfl rfl hns (by kernel_rfl) (by kernel_rfl) hQ (by kernel_rfl) (fun _ _ => by kernel_rfl) h0 ?_
            refine hx_take (i := 9) (oi := _) (v := .int .u8 (((ByteArray.mk s.toArray)[k]'hlt).toNat : Int)) rfl rfl hns (by kernel_rfl) (by kernel_rfl) hQ (by kernel_rfl) (fun W _ => ix_str rfl (by kernel_rfl) (by kernel_rfl) hlt W) h0 ?_
            refine hx_call (i := 10) (oi := _) 97 #[.int .i64 2, .int .u8 (((ByteArray.mk s.toArray)[k]'hlt).toNat : Int)] rfl rfl (by kernel_rfl) (by kernel_rfl) (by kernel_rfl) (HM.out _) ?_
            rintro e w' ⟨rfl, rfl⟩
            refine ⟨_, rfl, h0, ?_⟩
            refine hx_take (i := 11) (oi := _) (v := .bool false) rfl rfl hns (by kernel_rfl) (by kernel_rfl) hQ (by kernel_rfl) (fun _ _ => by kernel_rfl) h0 ?_
            refine wpAnyH_done (by kernel_rfl) ?_ _
            clear hns hQ
            simp only [List.set_cons_zero, List.set_cons_succ]
            have hRk : R = k := by have h := hres.out; rw [HST.out, if_neg (by simp)] at h; omega
            have hS2 : Since W1 wr.drew := hs1r.drew
            replace c0 := (show wr.drew.heap[w.heap.size]? = _ from c0)
            replace c1 := (show wr.drew.heap[w.heap.size + 1]? = _ from c1)
            obtain rfl := hRk
            clear kc hs1r h0 hres HR hb0 hb1
            generalize wr.drew = W2 at *
            have hsub : IntKind.i64.wrap ((R : Int) - (i : Int)) = ((R - i : Nat) : Int) := by rw [IntWalk.i64_in] <;> omega
            have z0 : W2.cell? ⟨w.heap.size, 0, none⟩ = some (.int .i64 0) := cell_of_row _ _ _ _ _ _ c0
            have z1 : W2.cell? ⟨w.heap.size, 1, none⟩ = some (.string ⟨#[]⟩) := cell_of_row _ _ _ _ _ _ c0
            have z2 : W2.cell? ⟨w.heap.size, 2, none⟩ = some (.int .i64 0) := cell_of_row _ _ _ _ _ _ c0
            have y0 : W2.cell? ⟨w.heap.size + 1, 0, none⟩ = some (.int .i64 2) := cell_of_row _ _ _ _ _ _ c1
            have y1 : W2.cell? ⟨w.heap.size + 1, 1, none⟩ = some (.string ⟨#[]⟩) := cell_of_row _ _ _ _ _ _ c1
            have y2 : W2.cell? ⟨w.heap.size + 1, 2, none⟩ = some (.int .i64 (i : Int)) := cell_of_row _ _ _ _ _ _ c1
            have zf0 : W2.frozen? ⟨w.heap.size, 0, none⟩ = false := frozen_of_row _ _ _ _ _ c0
            have zf1 : W2.frozen? ⟨w.heap.size, 1, none⟩ = false := frozen_of_row _ _ _ _ _ c0
            have zf2 : W2.frozen? ⟨w.heap.size, 2, none⟩ = false := frozen_of_row _ _ _ _ _ c0
            have yf : W2.frozen? ⟨w.heap.size + 1, 1, none⟩ = false := frozen_of_row _ _ _ _ _ c1
            have zl : w.heap.size < W2.heap.size := (Array.getElem?_eq_some_iff.1 c0).1
            have yl : w.heap.size + 1 < W2.heap.size := (Array.getElem?_eq_some_iff.1 c1).1
            have hwS : w.heap.size ≤ w.heap.size + 1 := by omega
            have hm := HMid.out
            by_cases hq : 255 < R - i
            · have hq1 : (255 : Int) < ((R - i : Nat) : Int) := by omega
              have H0 := Lib.hid c0
              have HS2 := Lib.hid (hS.trans hS2)
              clear c0 c1 hS2 hq
              go_wp2_with fail
              refine bodyPost_ret (res_tok (g := w.heap.size) rfl rfl (heap_setCell_same _ _ _ _ _ _ (heap_setCell_same _ _ _ _ _ _ (heap_setCell_same _ _ _ _ _ _ H0.out))) rfl) rfl ?_
              exact (HP.out _ (((HS2.out.setCell (p := ⟨w.heap.size, 0, none⟩) (Nat.le_refl _) _).setCell (p := ⟨w.heap.size, 1, none⟩) (Nat.le_refl _) _).setCell (p := ⟨w.heap.size, 2, none⟩) (Nat.le_refl _) _)).1 (by omega)
            · have hq1 : ¬ (255 : Int) < ((R - i : Nat) : Int) := by omega
              have H0 := Lib.hid c0
              have HS2 := Lib.hid (hS.trans hS2)
              clear c0 c1 hS2
              go_wp2_with fail
              refine bodyPost_ret (res_tok (g := w.heap.size) rfl rfl (heap_setCell_same _ _ _ _ _ _ (heap_setCell_same _ _ _ _ _ _ (heap_setCell_same _ _ _ _ _ _ ((heap_setCell_other _ _ _ _ (by show w.heap.size ≠ w.heap.size + 1; omega)).trans H0.out)))) rfl) rfl ?_
              exact (HP.out _ ((((HS2.out.setCell (p := ⟨w.heap.size + 1, 1, none⟩) hwS _).setCell (p := ⟨w.heap.size, 0, none⟩) (Nat.le_refl _) _).setCell (p := ⟨w.heap.size, 1, none⟩) (Nat.le_refl _) _).setCell (p := ⟨w.heap.size, 2, none⟩) (Nat.le_refl _) _)).2 (by omega)
          · rw [hmo] at HM hst
            have HST := Lib.hid hst
            clear hst hmo
            refine hx_begin (S := fun W => Since wr W) (by kernel_rfl) h0 (by kernel_rfl) (fun _ _ _ _ _ h => h) (fun hns hQ => ?_)
            refine hx_take (i := 0) (oi := _) (v := .int .i64 (k : Int)) rfl rfl hns (by kernel_rfl) (by kernel_rfl) hQ (by kernel_rfl) (fun _ _ => by kernel_rfl) h0 ?_
            refine hx_take (i := 1) (oi := _) (v := .string ⟨s.toArray⟩) rfl rfl hns (by kernel_rfl) (by kernel_rfl) hQ (by kernel_rfl) (fun _ _ => by kernel_rfl) h0 ?_
            refine hx_take (i := 2) (oi := _) (v := .int .i64 (s.length : Int)) rfl rfl hns (by kernel_rfl) (by kernel_rfl) hQ (by kernel_rfl) (fun _ _ => by kernel_rfl) h0 ?_
            refine hx_take (i := 3) (oi := _) (v := .bool true) rfl rfl hns (by kernel_rfl) (by kernel_rfl) hQ (by kernel_rfl) (fun W _ => lss_is rfl (by kernel_rfl) (by kernel_rfl) hd W) h0 ?_
            refine hx_take (i := 4) (oi := _) (v := .bool true) rfl rfl hns (by kernel_rfl) (by kernel_rfl) hQ (by kernel_rfl) (fun _ _ => by kernel_rfl) h0 ?_
            refine hx_take (i := 5) (oi := _) (v := .pointer (some ⟨w.heap.size + 1, 0, none⟩)) rfl rfl hns (by kernel_rfl) (by kernel_rfl) hQ (by kernel_rfl) (fun _ _ => by kernel_rfl) h0 ?_
            refine hx_take (i := 6) (oi := _) (v := .int .i64 2) rfl rfl hns (by kernel_rfl) (by kernel_rfl) hQ (by kernel_rfl) (fun W hW => ld_one rfl (by kernel_rfl) (by kernel_rfl) W (hW.cell kc)) h0 ?_
            refine hx_take (i := 7) (oi := _) (v := .string ⟨s.toArray⟩) rfl rfl hns (by kernel_rfl) (by kernel_rfl) hQ (by kernel_rfl) (fun _ _ => by kernel_rfl) h0 ?_
            refine hx_take (i := 8) (oi := _) (v := .int .i64 (k : Int)) rfl rfl hns (by kernel_rfl) (by kernel_rfl) hQ (by kernel_rfl) (fun _ _ => by kernel_rfl) h0 ?_
            refine hx_take (i := 9) (oi := _) (v := .int .u8 (((ByteArray.mk s.toArray)[k]'hlt).toNat : Int)) rfl rfl hns (by kernel_rfl) (by kernel_rfl) hQ (by kernel_rfl) (fun W _ => ix_str rfl (by kernel_rfl) (by kernel_rfl) hlt W) h0 ?_
            refine hx_call (i := 10) (oi := _) 97 #[.int .i64 2, .int .u8 (((ByteArray.mk s.toArray)[k]'hlt).toNat : Int)] rfl rfl (by kernel_rfl) (by kernel_rfl) (by kernel_rfl) (HM.out _) ?_
            rintro e w' ⟨rfl, rfl⟩
            refine ⟨_, rfl, h0, ?_⟩
            refine hx_take (i := 11) (oi := _) (v := .bool true) rfl rfl hns (by kernel_rfl) (by kernel_rfl) hQ (by kernel_rfl) (fun _ _ => by kernel_rfl) h0 ?_
            refine wpAnyH_done (by kernel_rfl) ?_ _
            clear hns hQ
            simp only [List.set_cons_zero, List.set_cons_succ]
            have hres2 : Hid (R = k + 1 + runL (s.drop (k + 1)) 2) := by
              show _ = _
              rw [hres.out, HST.out, if_pos rfl]; omega
            go_wp2_with fail
            go_roundw
            case rel => exact ⟨k + 1, by omega, by omega, by go_num, hres2, hs1r.drew⟩
            case measure => simp [intOf]; omega
        · have hd : decide ((k : Int) < (s.length : Int)) = false := decide_eq_false (by omega)
          refine hx_begin (S := fun W => Since wr W) (by kernel_rfl) h0 (by kernel_rfl) (fun _ _ _ _ _ h => h) (fun hns hQ => ?_)
          refine hx_take (i := 0) (oi := _) (v := .int .i64 (k : Int)) rfl rfl hns (by kernel_rfl) (by kernel_rfl) hQ (by kernel_rfl) (fun _ _ => by kernel_rfl) h0 ?_
          refine hx_take (i := 1) (oi := _) (v := .string ⟨s.toArray⟩) rfl rfl hns (by kernel_rfl) (by kernel_rfl) hQ (by kernel_rfl) (fun _ _ => by kernel_rfl) h0 ?_
          refine hx_take (i := 2) (oi := _) (v := .int .i64 (s.length : Int)) rfl rfl hns (by kernel_rfl) (by kernel_rfl) hQ (by kernel_rfl) (fun _ _ => by kernel_rfl) h0 ?_
          refine hx_take (i := 3) (oi := _) (v := .bool false) rfl rfl hns (by kernel_rfl) (by kernel_rfl) hQ (by kernel_rfl) (fun W _ => lss_is rfl (by kernel_rfl) (by kernel_rfl) hd W) h0 ?_
          refine hx_take (i := 4) (oi := _) (v := .bool false) rfl rfl hns (by kernel_rfl) (by kernel_rfl) hQ (by kernel_rfl) (fun _ _ => by kernel_rfl) h0 ?_
          refine hx_off (i := 5) (oi := _) rfl rfl hns (by kernel_rfl) (by kernel_rfl) hQ (by kernel_rfl) h0 ?_
          refine hx_off (i := 6) (oi := _) rfl rfl hns (by kernel_rfl) (by kernel_rfl) hQ (by kernel_rfl) h0 ?_
          refine hx_off (i := 7) (oi := _) rfl rfl hns (by kernel_rfl) (by kernel_rfl) hQ (by kernel_rfl) h0 ?_
          refine hx_off (i := 8) (oi := _) rfl rfl hns (by kernel_rfl) (by kernel_rfl) hQ (by kernel_rfl) h0 ?_
          refine hx_off (i := 9) (oi := _) rfl rfl hns (by kernel_rfl) (by kernel_rfl) hQ (by kernel_rfl) h0 ?_
          refine hx_off (i := 10) (oi := _) rfl rfl hns (by kernel_rfl) (by kernel_rfl) hQ (by kernel_rfl) h0 ?_
          refine hx_take (i := 11) (oi := _) (v := .bool false) rfl rfl hns (by kernel_rfl) (by kernel_rfl) hQ (by kernel_rfl) (fun _ _ => by kernel_rfl) h0 ?_
          refine wpAnyH_done (by kernel_rfl) ?_ _
          clear hns hQ
          simp only [List.set_cons_zero, List.set_cons_succ]
          have hRk : R = k := by have h := hres.out; rw [List.drop_eq_nil_of_le (by omega)] at h; exact h
          have hS2 : Since W1 wr.drew := hs1r.drew
          replace c0 := (show wr.drew.heap[w.heap.size]? = _ from c0)
          replace c1 := (show wr.drew.heap[w.heap.size + 1]? = _ from c1)
          obtain rfl := hRk
          clear kc hs1r h0 hres HR hb0 hb1
          generalize wr.drew = W2 at *
          have hsub : IntKind.i64.wrap ((R : Int) - (i : Int)) = ((R - i : Nat) : Int) := by rw [IntWalk.i64_in] <;> omega
          have z0 : W2.cell? ⟨w.heap.size, 0, none⟩ = some (.int .i64 0) := cell_of_row _ _ _ _ _ _ c0
          have z1 : W2.cell? ⟨w.heap.size, 1, none⟩ = some (.string ⟨#[]⟩) := cell_of_row _ _ _ _ _ _ c0
          have z2 : W2.cell? ⟨w.heap.size, 2, none⟩ = some (.int .i64 0) := cell_of_row _ _ _ _ _ _ c0
          have y0 : W2.cell? ⟨w.heap.size + 1, 0, none⟩ = some (.int .i64 2) := cell_of_row _ _ _ _ _ _ c1
          have y1 : W2.cell? ⟨w.heap.size + 1, 1, none⟩ = some (.string ⟨#[]⟩) := cell_of_row _ _ _ _ _ _ c1
          have y2 : W2.cell? ⟨w.heap.size + 1, 2, none⟩ = some (.int .i64 (i : Int)) := cell_of_row _ _ _ _ _ _ c1
          have zf0 : W2.frozen? ⟨w.heap.size, 0, none⟩ = false := frozen_of_row _ _ _ _ _ c0
          have zf1 : W2.frozen? ⟨w.heap.size, 1, none⟩ = false := frozen_of_row _ _ _ _ _ c0
          have zf2 : W2.frozen? ⟨w.heap.size, 2, none⟩ = false := frozen_of_row _ _ _ _ _ c0
          have yf : W2.frozen? ⟨w.heap.size + 1, 1, none⟩ = false := frozen_of_row _ _ _ _ _ c1
          have zl : w.heap.size < W2.heap.size := (Array.getElem?_eq_some_iff.1 c0).1
          have yl : w.heap.size + 1 < W2.heap.size := (Array.getElem?_eq_some_iff.1 c1).1
          have hwS : w.heap.size ≤ w.heap.size + 1 := by omega
          have hm := HMid.out
          by_cases hq : 255 < R - i
          · have hq1 : (255 : Int) < ((R - i : Nat) : Int) := by omega
            have H0 := Lib.hid c0
            have HS2 := Lib.hid (hS.trans hS2)
            clear c0 c1 hS2 hq
            go_wp2_with fail
            refine bodyPost_ret (res_tok (g := w.heap.size) rfl rfl (heap_setCell_same _ _ _ _ _ _ (heap_setCell_same _ _ _ _ _ _ (heap_setCell_same _ _ _ _ _ _ H0.out))) rfl) rfl ?_
            exact (HP.out _ (((HS2.out.setCell (p := ⟨w.heap.size, 0, none⟩) (Nat.le_refl _) _).setCell (p := ⟨w.heap.size, 1, none⟩) (Nat.le_refl _) _).setCell (p := ⟨w.heap.size, 2, none⟩) (Nat.le_refl _) _)).1 (by omega)
          · have hq1 : ¬ (255 : Int) < ((R - i : Nat) : Int) := by omega
            have H0 := Lib.hid c0
            have HS2 := Lib.hid (hS.trans hS2)
            clear c0 c1 hS2
            go_wp2_with fail
            refine bodyPost_ret (res_tok (g := w.heap.size) rfl rfl (heap_setCell_same _ _ _ _ _ _ (heap_setCell_same _ _ _ _ _ _ (heap_setCell_same _ _ _ _ _ _ ((heap_setCell_other _ _ _ _ (by show w.heap.size ≠ w.heap.size + 1; omega)).trans H0.out)))) rfl) rfl ?_
            exact (HP.out _ ((((HS2.out.setCell (p := ⟨w.heap.size + 1, 1, none⟩) hwS _).setCell (p := ⟨w.heap.size, 0, none⟩) (Nat.le_refl _) _).setCell (p := ⟨w.heap.size, 1, none⟩) (Nat.le_refl _) _).setCell (p := ⟨w.heap.size, 2, none⟩) (Nat.le_refl _) _)).2 (by omega)
  · have ht := tok_sign hi hs1
    have hm : ∀ W, (Instr.slice 9 (.string ⟨s.toArray⟩) (some (.int .i64 i)) (some (.int .i64 ((i : Int) + 1))) none).run Tryz.prog W = .ok (.string ⟨((s.take (i + 1)).drop i).toArray⟩) W := fun W => run_mid (S := s) (i := i) (j := i + 1) (by omega) (by omega) W
    have hP : ∀ W, Since w W → RtPost s i w (.returned (.tuple #[.agg #[.int .i64 3, .string ⟨((s.take (i + 1)).drop i).toArray⟩, .int .i64 (i : Int)], .int .i64 0])) W := fun W h => by
      refine ⟨h, ?_⟩
      rw [ht]
    generalize (s.take (i + 1)).drop i = T at *
    have HP := Lib.hid hP
    clear hP ht
    go_enter Tryz.func71, Tryz.ntmps71
    go_wp2_with (go_at_call 96; refine (rin_sign _ _).mono ?_; rintro e w' ⟨rfl, rfl⟩)
    refine bodyPost_ret (res_tok (g := w.heap.size) rfl rfl (blk_alloc (heap_alloc_new _ _) _) rfl) rfl ?_
    exact HP.out _ (((Since.refl w).alloc _).alloc _)
theorem own_sinceX {w w' : World} {base : Nat} {e : TypeId} {size : Nat} {v : Value} {n : Nat} {xs : List Value} (h : w.ownsRow base e size v n xs) (hs : Since w w') : w'.ownsRow base e size v n xs :=
  h.kept (row := none) ⟨hs.os, hs.tape, hs.output, hs.size, fun k hk _ => hs.block k hk⟩ (by
    cases hv : v.ownBlock with
    | none => exact .inl rfl
    | some g => exact .inr (by simp))
/-- The place and the error, as numbers. -/
def plO : Option (Nat × Int) → Int × Int
  | none => (0, 0)
  | some (a, x) => ((a : Int), x)
def plE (s : List UInt8) : Int × Int := plO (toksL s).2
def RtksPost (s : List UInt8) (w : World) (e : Ending) (w' : World) : Prop :=
  ∃ v, e = .returned (.tuple #[v, .int .i64 (plE s).1, .int .i64 (plE s).2]) ∧ w'.ownsRow w.heap.size 63 3 v (toksL s).1.length ((toksL s).1.flatMap tkL) ∧ Since w w'
theorem err_ne {s : List UInt8} {acc : List Tk} {a : Nat} {x : Int} (h : toksL s = (acc, some (a, x))) : x ≠ 0 :=
  (toksF_err (s.length + 1) s 0 a x (by rw [show toksF (s.length + 1) s 0 = toksL s from rfl, h])).2
set_option maxHeartbeats 8000000 in
set_option maxRecDepth 100000 in
theorem rtokens_any (s : List UInt8) (w : World) (hs : s.length ≤ 65536) : Calls Tryz.prog 46 #[.string ⟨s.toArray⟩] w (RtksPost s w) := by
  obtain ⟨i0, hi, hz0, hz1, hz2⟩ := info_parts infoTk
  have HI0 := Lib.hid (And.intro hi (And.intro hz0 (And.intro hz1 hz2)))
  clear hi hz0 hz1 hz2
  have g : ¬ (65536 : Int) < (s.length : Int) := by omega
  have hP : ∀ (W : World) (v : Value) (acc : List Tk), toksL s = (acc, none) → W.ownsRow w.heap.size 63 3 v acc.length (acc.flatMap tkL) → Since w W → RtksPost s w (.returned (.tuple #[v, .int .i64 0, .int .i64 0])) W := by
    intro W v acc h ho hS
    refine ⟨v, ?_, ?_, hS⟩
    · rw [plE, h]; rfl
    · rw [h]; exact ho
  have hP2 : ∀ (W : World) (v : Value) (acc : List Tk) (a : Nat) (x : Int), toksL s = (acc, some (a, x)) → W.ownsRow w.heap.size 63 3 v acc.length (acc.flatMap tkL) → Since w W → RtksPost s w (.returned (.tuple #[v, .int .i64 (a : Int), .int .i64 x])) W := by
    intro W v acc a x h ho hS
    refine ⟨v, ?_, ?_, hS⟩
    · rw [plE, h]; rfl
    · rw [h]; exact ho
  have HP := Lib.hid hP
  have HP2 := Lib.hid hP2
  clear hP hP2
  go_enter Tryz.func46, Tryz.ntmps46
  go_wp2_with fail
  refine (rskip_any s 0 w (by omega) hs).mono ?_
  rintro e w1 ⟨rfl, rfl⟩
  have hj0 := skipN_le false (s.drop 0)
  rw [List.length_drop] at hj0
  go_wp2_with fail
  go_loopw [5, 6] (fun v m wr => ∃ (i j : Nat) (acc : List Tk), j = i + skipN false (s.drop i) ∧ i ≤ s.length ∧ j ≤ s.length ∧ acc.length ≤ i ∧ m = .int .i64 (j : Int) ∧ wr.ownsRow w.heap.size 63 3 v acc.length (acc.flatMap tkL) ∧ Since w wr ∧ Hid (LeftL s acc i)) (fun _ m _ => s.length - (intOf m).toNat)
  case atStart => exact ⟨0, skipN false s, [], by simp, by omega, by simpa using hj0, by simp, rfl, ⟨rfl, .inl ⟨rfl, rfl⟩⟩, Since.refl _, left_0 s⟩
  case round =>
    clear hj0
    obtain ⟨i, j, acc, hj, hi, hjl, hacc, rfl, hown, hS, hleft⟩ := hrel
    have hst := left_step hi hleft.out
    have hnx : nextL s i = tokN (s.drop j) := by rw [nextL, ← hj]
    rw [← hj] at hst
    have HST := Lib.hid hst
    have HNX := Lib.hid hnx
    have HJ := Lib.hid hj
    clear hst hnx hj hleft
    by_cases hlt : j < s.length
    · have hlt2 : (j : Int) < (s.length : Int) := by omega
      go_wp2_with fail
      refine (rtoken_any s j wr hlt hs).mono ?_
      rintro e w5 ⟨hb, hpost⟩
      have hS5 : Since w w5 := hS.trans hb
      have hown5 := own_sinceX hown hb
      have hst := HST.out
      rw [HNX.out] at hst
      clear hb hown hS HST
      cases hn : tokN (s.drop j) with
      | none => rw [hn] at hpost; exact hpost.elim
      | some y =>
        cases y with
        | error x =>
          rw [hn] at hpost hst
          simp only at hpost hst
          have hx : (x != 0) = true := by simpa using err_ne hst
          subst hpost
          have HT := Lib.hid hst
          clear hst hn
          go_wp2_with fail
          go_ret3
          exact HP2.out _ _ acc j x HT.out (hown5.alloc _) (hS5.alloc _)
        | ok p =>
          obtain ⟨q, u⟩ := p
          have hu0 := (tokN_len hn).1
          rw [hn] at hpost hst
          simp only at hpost hst
          subst hpost
          obtain ⟨hl1, hl2, hl3⟩ := hst
          have HL := Lib.hid hl1
          clear hn hl1
          have hb5 : w.heap.size ≤ w5.heap.size := hS5.size
          have hvl := hown5.lt
          go_wp2_with (at_builtin; refine wpList_append_own _ rfl (.tmp 29) (.tmp 31) 59 rfl w.heap.size 63 i0 (.agg #[.int .i64 0, .string ByteArray.empty, .int .i64 0]) 3 32 Tryz.underlying59 HI0.out.1 HI0.out.2.1 HI0.out.2.2.1 HI0.out.2.2.2 rfl (by decide) _ acc.length (acc.flatMap tkL) rfl ((hown5.alloc _).alloc _) ⟨w5.heap.size + 1, 0, none⟩ 1 1 (tkL (q, u, j)) rfl rfl ?c0 ?c1 ?c2 ?c3 ?c4 ?_)
          case c0 => exact tk_new2 w5 _ (q, u, j) _
          case c1 => exact tk_one _
          case c2 => unfold maxLen; omega
          case c3 => omega
          case c4 => simp; omega
          intro v' w6 hown6 hgrow _
          have hB : Since w w6 := Below.grown ((hS5.alloc _).alloc _) hgrow (by simp; omega) (fun k hk => by have := own_ge hown5 k hk; omega)
          have hown7 : w6.ownsRow w.heap.size 63 3 v' (acc ++ [(q, u, j)]).length ((acc ++ [(q, u, j)]).flatMap tkL) := by
            simpa using hown6
          have htb : w6.heap[w5.heap.size]? = some (.cells #[.int .i64 q, .string ⟨u.toArray⟩, .int .i64 (j : Int)] 63 (0, 0)) := (hgrow.block w5.heap.size (by simp; omega) (fun e => Nat.lt_irrefl _ (hvl _ e.symm).2)).trans (blk_alloc (heap_alloc_new w5 _) _)
          have t1 : w6.cell? ⟨w5.heap.size, 1, none⟩ = some (.string ⟨u.toArray⟩) := cell_of_row _ _ _ _ _ _ htb
          clear hown6 hgrow hown5 hS5 htb
          have HSK := Lib.hid (rskip_any s (j + u.length) w6 hl3 hs)
          rw [show ((j + u.length : Nat) : Int) = (j : Int) + (u.length : Int) by omega] at HSK
          go_wp2_with fail
          refine HSK.out.mono ?_
          rintro e w7 ⟨rfl, rfl⟩
          have hj2 := skipN_le false (s.drop (j + u.length))
          rw [List.length_drop] at hj2
          go_wp2_with fail
          go_roundw
          case rel => exact ⟨j + u.length, j + u.length + skipN false (s.drop (j + u.length)), acc ++ [(q, u, j)], rfl, hl3, by omega, by simp; omega, rfl, hown7, hB, HL.out⟩
          case measure => simp [intOf]; omega
    · have hlt2 : ¬ (j : Int) < (s.length : Int) := by omega
      have hst := HST.out
      have hn : tokN (s.drop j) = none := by rw [List.drop_eq_nil_of_le (by omega)]; rfl
      rw [HNX.out, hn] at hst
      have HT := Lib.hid hst
      clear hst hn HST
      go_wp2_with fail
      go_ret3
      exact HP.out _ _ acc HT.out hown hS
theorem rall_any (s : List UInt8) (w : World) (hs : s.length ≤ 65536) : Calls Tryz.prog 22 #[.string ⟨s.toArray⟩] w (AllPost s w) := by
  have ha : allL s = match toksL s with | (l, none) => (l, 0, 0) | (_, some (a, e)) => ([], a, e) := by
    rw [allL, if_neg (by omega)]
    rcases toksL s with ⟨l, _ | ⟨a, e⟩⟩ <;> rfl
  obtain ⟨⟨L, o⟩, hL⟩ : ∃ y, Hid (y = toksL s) := ⟨toksL s, rfl⟩
  rw [← hL.out] at ha
  have HT := Lib.hid (rtokens_any s w hs)
  unfold RtksPost at HT
  obtain ⟨⟨z1, z2⟩, hz⟩ : ∃ z, Hid (z = plE s) := ⟨plE s, rfl⟩
  rw [← hz.out, ← hL.out] at HT
  simp only at HT
  have hz3 : Hid ((z1, z2) = plO o) := Lib.hid (by rw [hz.out, plE, ← hL.out])
  clear hz
  go_enter Tryz.func22, Tryz.ntmps22
  go_wp2_with fail
  refine HT.out.mono ?_
  clear HT
  rintro e w1 ⟨v, rfl, hown, hb⟩
  cases o with
  | none =>
    obtain ⟨rfl, rfl⟩ : z1 = 0 ∧ z2 = 0 := by have h := hz3.out; exact ⟨congrArg Prod.fst h, congrArg Prod.snd h⟩
    go_wp2_with fail
    go_ret3
    refine ⟨v, ?_, ?_, hb⟩
    · rw [ha]; rfl
    · rw [ha]; exact hown
  | some y =>
    obtain ⟨a, x⟩ := y
    have hx : (x != 0) = true := by simpa using err_ne hL.out.symm
    obtain ⟨rfl, rfl⟩ : z1 = (a : Int) ∧ z2 = x := by have h := hz3.out; exact ⟨congrArg Prod.fst h, congrArg Prod.snd h⟩
    go_wp2_with fail
    go_ret3
    refine ⟨.slice none 0 0, ?_, ?_, hb⟩
    · rw [ha]; rfl
    · rw [ha]; exact ⟨rfl, .inl ⟨rfl, rfl⟩⟩
end Go.Proofs.YtnfjjckbgnieeaaGreatDoor
