/- The reference of layer 9: token. -/
import Derived.Test.YtfbkddpapjpgbaaRef09
import Derived.Test.YtfbkddpapjpgbaaAutoX
namespace Go.Proofs.Ytfbkddpapjpgbaa
open Go.RowKit

def RtPost (s : List UInt8) (i : Nat) (w : World) (e : Ending) (w' : World) : Prop := Since w w' ∧ match tokN (s.drop i) with
  | some (.ok (q, t)) => e = .returned (.tuple #[.agg #[.int .i64 q, .string ⟨t.toArray⟩, .int .i64 (i : Int)], .int .i64 0])
  | some (.error x) => e = .returned (.tuple #[.agg #[.int .i64 0, .string ⟨#[]⟩, .int .i64 0], .int .i64 x])
  | none => False
theorem tok_sign {s : List UInt8} {i : Nat} (h : i < s.length) (hs : signB (((ByteArray.mk s.toArray)[i]'h).toNat : Int) = true) : tokN (s.drop i) = some (.ok (3, (s.take (i + 1)).drop i)) := by
  rw [at_bytes s i h h] at hs
  have e : (s.take (i + 1)).drop i = [s[i]] := by
    rw [List.drop_take, List.drop_eq_getElem_cons h, show i + 1 - i = 1 by omega]; rfl
  rw [e, List.drop_eq_getElem_cons h]
  exact tokN_sign hs
theorem tw_drop {s : List UInt8} {i m : Nat} {p : UInt8 → Bool} (hm : m = ((s.drop i).takeWhile p).length) : (s.take (i + m)).drop i = (s.drop i).takeWhile p := by
  rw [List.drop_take, show i + m - i = m by omega, hm, take_tw]
theorem tok_great {s : List UInt8} {i : Nat} (h : i < s.length) (hs : signB (((ByteArray.mk s.toArray)[i]'h).toNat : Int) = false) (hg : greatB (((ByteArray.mk s.toArray)[i]'h).toNat : Int) = true) :
    tokN (s.drop i) = some (if runL (s.drop i) 2 ≤ 255 then .ok (2, (s.take (i + runL (s.drop i) 2)).drop i) else .error 4) := by
  rw [at_bytes s i h h] at hs hg
  have hm : moreB true (s[i].toNat : Int) = true := by simp [moreB, hg]
  have e : (s.drop i).takeWhile (fun x => moreB true x.toNat) = s[i] :: (s.drop (i + 1)).takeWhile fun x => moreB true x.toNat := by
    rw [List.drop_eq_getElem_cons h, List.takeWhile_cons, hm]; rfl
  have hr : runL (s.drop i) 2 = ((s.drop i).takeWhile fun x => moreB true x.toNat).length := rfl
  rw [tw_drop hr, hr, e, List.drop_eq_getElem_cons h, tokN_great hs hg]
theorem tok_first {s : List UInt8} {i : Nat} (h : i < s.length) (hs : signB (((ByteArray.mk s.toArray)[i]'h).toNat : Int) = false) (hg : greatB (((ByteArray.mk s.toArray)[i]'h).toNat : Int) = false) (hf : firstB (((ByteArray.mk s.toArray)[i]'h).toNat : Int) = true) :
    tokN (s.drop i) = some (if runL (s.drop i) 1 ≤ 255 then .ok (1, (s.take (i + runL (s.drop i) 1)).drop i) else .error 4) := by
  rw [at_bytes s i h h] at hs hg hf
  have hm : moreB false (s[i].toNat : Int) = true := by
    have h2 : (smallB (s[i].toNat : Int) || digitB (s[i].toNat : Int)) = true := hf
    show (smallB (s[i].toNat : Int) || digitB (s[i].toNat : Int) || _ || _) = true
    rw [h2]; rfl
  have e : (s.drop i).takeWhile (fun x => moreB false x.toNat) = s[i] :: (s.drop (i + 1)).takeWhile fun x => moreB false x.toNat := by
    rw [List.drop_eq_getElem_cons h, List.takeWhile_cons, hm]; rfl
  have hr : runL (s.drop i) 1 = ((s.drop i).takeWhile fun x => moreB false x.toNat).length := rfl
  rw [tw_drop hr, hr, e, List.drop_eq_getElem_cons h, tokN_first hs hg hf]
theorem tok_bad {s : List UInt8} {i : Nat} (h : i < s.length) (hs : signB (((ByteArray.mk s.toArray)[i]'h).toNat : Int) = false) (hg : greatB (((ByteArray.mk s.toArray)[i]'h).toNat : Int) = false) (hf : firstB (((ByteArray.mk s.toArray)[i]'h).toNat : Int) = false) :
    tokN (s.drop i) = some (.error 3) := by
  rw [at_bytes s i h h] at hs hg hf
  rw [List.drop_eq_getElem_cons h, tokN, hs, hg, hf]; rfl
theorem res_tok {tmps : Array Value} {g : Nat} {cs : Array Value} {x : Value} {W : World} (h4 : tmps.getD 4 undef = .pointer (some ⟨g, 0, none⟩)) (h5 : tmps.getD 5 undef = x) (hg : W.heap[g]? = some (.cells cs 25 (0, 0))) (hc : cs.size = 3) :
    (results Try.f40 tmps).run Try.prog W = .ok (.tuple #[.agg cs, x]) W := by
  rw [results_cell_tmp (p := 4) (u := 5) (ty := 25) rfl, h4, h5]
  have hl := run_loadVar_row (P := Try.prog) W g 25 25 cs (0, 0) _ hg Try.underlying25 rfl (by rw [hc]; kernel_rfl)
  simp only [asAddr, Sem.run_pure, Result.andThen_ok, hl]
theorem ix_str {o : Oper} {x y : Operand} {ev : Operand → Value} {s : List UInt8} {k : Nat} (ho : o.op = Op.index 9 x y) (hx : ev x = .string ⟨s.toArray⟩) (hy : ev y = .int .i64 (k : Int)) (h : k < s.length) (W : World) :
    (execOp ev o).run Try.prog W = .ok (.value (.int .u8 (((ByteArray.mk s.toArray)[k]'h).toNat : Int))) W := by
  have h1 : (k : Int) < (s.length : Int) := by omega
  have h0 : (0 : Int) ≤ (k : Int) := by omega
  simp only [execOp, ho]
  go_simp
theorem lss_is {o : Oper} {x y : Operand} {ev : Operand → Value} {s t : Int} {b : Bool} (ho : o.op = .binOp .lss 3 x y 3) (hx : ev x = .int .i64 s) (hy : ev y = .int .i64 t) (hd : decide (s < t) = b) (W : World) :
    (execOp ev o).run Try.prog W = .ok (.value (.bool b)) W := by
  rw [← hd]
  exact lss_int ho hx hy W
theorem run_step {s : List UInt8} {k : Nat} {tok : Int} (h : k < s.length) : runL (s.drop k) tok = if moreB (tok == 2) (((ByteArray.mk s.toArray)[k]'h).toNat : Int) then runL (s.drop (k + 1)) tok + 1 else 0 := by
  rw [at_bytes s k h h, runL, List.drop_eq_getElem_cons h, List.takeWhile_cons]
  split <;> simp [runL]
set_option maxHeartbeats 4000000 in
theorem rtoken_any (s : List UInt8) (i : Nat) (w : World) (hi : i < s.length) (hs : s.length ≤ 65536) :
    Calls Try.prog 40 #[.string ⟨s.toArray⟩, .int .i64 (i : Int)] w (RtPost s i w) := by
  have hS : Since w ((w.alloc (.cells #[.int .i64 0, .string ⟨#[]⟩, .int .i64 0] 25)).alloc (.cells #[.int .i64 0, .string ⟨#[]⟩, .int .i64 (i : Int)] 25)) := ((Since.refl w).alloc _).alloc _
  have h1w : IntKind.i64.wrap ((i : Int) + 1) = ((i + 1 : Nat) : Int) := by rw [IntWalk.i64_in] <;> omega
  cases hs1 : signB (((ByteArray.mk s.toArray)[i]'hi).toNat : Int)
  · cases hg1 : greatB (((ByteArray.mk s.toArray)[i]'hi).toNat : Int)
    · cases hf1 : firstB (((ByteArray.mk s.toArray)[i]'hi).toNat : Int)
      · have ht := tok_bad hi hs1 hg1 hf1
        have hP : ∀ W, Since w W → RtPost s i w (.returned (.tuple #[.agg #[.int .i64 0, .string ⟨#[]⟩, .int .i64 0], .int .i64 3])) W := fun W h => by
          refine ⟨h, ?_⟩
          rw [ht]
        have HP := Lib.hid hP
        have hm1 : smallB (((ByteArray.mk s.toArray)[i]'hi).toNat : Int) = false := (Bool.or_eq_false_iff.1 hf1).1
        have hm2 : digitB (((ByteArray.mk s.toArray)[i]'hi).toNat : Int) = false := (Bool.or_eq_false_iff.1 hf1).2
        clear hP ht hf1
        go_enter Try.func40, Try.ntmps40
        go_wp2_with (first | (go_at_call 45; refine (rin_sign _ _).mono ?_; rintro e w' ⟨rfl, rfl⟩) | (go_at_call 20; refine (rGreat_any _ _).mono ?_; rintro e w' ⟨rfl, rfl⟩) | (go_at_call 21; refine (rSmall_any _ _).mono ?_; rintro e w' ⟨rfl, rfl⟩) | (go_at_call 22; refine (rDigit_any _ _).mono ?_; rintro e w' ⟨rfl, rfl⟩))
        refine bodyPost_ret (res_tok (g := w.heap.size) rfl rfl (blk_alloc (heap_alloc_new _ _) _) rfl) rfl ?_
        exact HP.out _ (((Since.refl w).alloc _).alloc _)
      · cases hm1 : smallB (((ByteArray.mk s.toArray)[i]'hi).toNat : Int)
        · have hm2 : digitB (((ByteArray.mk s.toArray)[i]'hi).toNat : Int) = true := by
            have h : (smallB (((ByteArray.mk s.toArray)[i]'hi).toNat : Int) || digitB (((ByteArray.mk s.toArray)[i]'hi).toNat : Int)) = true := hf1
            rwa [hm1, Bool.false_or] at h
          have ht := tok_first hi hs1 hg1 hf1
          obtain ⟨R, hR⟩ : ∃ R, Hid (R = i + runL (s.drop i) 1) := ⟨_, rfl⟩
          have hRl : R ≤ s.length := by
            have := runL_le (s.drop i) 1
            rw [List.length_drop] at this
            have := hR.out
            omega
          have hRi : i ≤ R := by have := hR.out; omega
          have hr9 : runL (s.drop i) 1 = R - i := by have := hR.out; omega
          rw [← hR.out, hr9] at ht
          have hP : ∀ W, Since w W → (255 < R - i → RtPost s i w (.returned (.tuple #[.agg #[.int .i64 0, .string ⟨#[]⟩, .int .i64 0], .int .i64 4])) W) ∧ (R - i ≤ 255 → RtPost s i w (.returned (.tuple #[.agg #[.int .i64 1, .string ⟨((s.take R).drop i).toArray⟩, .int .i64 (i : Int)], .int .i64 0])) W) := fun W h => by
            refine ⟨fun hq => ⟨h, ?_⟩, fun hq => ⟨h, ?_⟩⟩
            · rw [ht, if_neg (by omega)]
            · rw [ht, if_pos hq]
          have HP := Lib.hid hP
          have hm : ∀ W, (Instr.slice 9 (.string ⟨s.toArray⟩) (some (.int .i64 i)) (some (.int .i64 R)) none).run Try.prog W = .ok (.string ⟨((s.take R).drop i).toArray⟩) W := fun W => run_mid hRi hRl W
          have HR := Lib.hid hR.out
          have HMid := Lib.hid hm
          generalize (s.take R).drop i = T at *
          clear hP ht hr9 hR hm
          clear hf1
          go_enter Try.func40, Try.ntmps40
          go_wp2_with (first | (go_at_call 45; refine (rin_sign _ _).mono ?_; rintro e w' ⟨rfl, rfl⟩) | (go_at_call 20; refine (rGreat_any _ _).mono ?_; rintro e w' ⟨rfl, rfl⟩) | (go_at_call 21; refine (rSmall_any _ _).mono ?_; rintro e w' ⟨rfl, rfl⟩) | (go_at_call 22; refine (rDigit_any _ _).mono ?_; rintro e w' ⟨rfl, rfl⟩))
          clear hS hm1 hm2 hs1 hg1
          have hS : Since w ((w.alloc (.cells #[.int .i64 0, .string ⟨#[]⟩, .int .i64 0] 25)).alloc (.cells #[.int .i64 1, .string ⟨#[]⟩, .int .i64 (i : Int)] 25)) := ((Since.refl w).alloc _).alloc _
          have hb0 : ((w.alloc (.cells #[.int .i64 0, .string ⟨#[]⟩, .int .i64 0] 25)).alloc (.cells #[.int .i64 1, .string ⟨#[]⟩, .int .i64 (i : Int)] 25)).heap[w.heap.size]? = some (.cells #[.int .i64 0, .string ⟨#[]⟩, .int .i64 0] 25 (0, 0)) := blk_alloc (heap_alloc_new _ _) _
          have hb1 : ((w.alloc (.cells #[.int .i64 0, .string ⟨#[]⟩, .int .i64 0] 25)).alloc (.cells #[.int .i64 1, .string ⟨#[]⟩, .int .i64 (i : Int)] 25)).heap[w.heap.size + 1]? = some (.cells #[.int .i64 1, .string ⟨#[]⟩, .int .i64 (i : Int)] 25 (0, 0)) := heap_alloc2_new _ _ _
          generalize (w.alloc (.cells #[.int .i64 0, .string ⟨#[]⟩, .int .i64 0] 25)).alloc (.cells #[.int .i64 1, .string ⟨#[]⟩, .int .i64 (i : Int)] 25) = W1 at *
          go_loopw [7] (fun m wr => ∃ k : Nat, i ≤ k ∧ k ≤ s.length ∧ m = .int .i64 (k : Int) ∧ Hid (R = k + runL (s.drop k) 1) ∧ Since W1 wr) (fun m _ => s.length - (intOf m).toNat)
          case atStart => exact ⟨i, by omega, by omega, rfl, HR.out, Since.refl _⟩
          case round =>
            obtain ⟨k, hik, hk, rfl, hres, hs1r⟩ := hrel
            have c0 : wr.heap[w.heap.size]? = some (.cells #[.int .i64 0, .string ⟨#[]⟩, .int .i64 0] 25 (0, 0)) := (Below.block hs1r _ (Array.getElem?_eq_some_iff.1 hb0).1).trans hb0
            have c1 : wr.heap[w.heap.size + 1]? = some (.cells #[.int .i64 1, .string ⟨#[]⟩, .int .i64 (i : Int)] 25 (0, 0)) := (Below.block hs1r _ (Array.getElem?_eq_some_iff.1 hb1).1).trans hb1
            have kc : wr.cell? ⟨w.heap.size + 1, 0, none⟩ = some (.int .i64 1) := cell_of_row _ _ _ _ _ _ c1
            go_wp2_with fail
            have h0 := (Since.refl wr).drew
            by_cases hlt : k < s.length
            · have hst := run_step (tok := 1) hlt
              have hd : decide ((k : Int) < (s.length : Int)) = true := decide_eq_true (by omega)
              have HM : Hid (∀ W, Calls Try.prog 46 #[.int .i64 1, .int .u8 (((ByteArray.mk s.toArray)[k]'hlt).toNat : Int)] W fun e w' => e = .returned (.bool (moreB ((1 : Int) == 2) (((ByteArray.mk s.toArray)[k]'hlt).toNat : Int))) ∧ W = w') := fun W => rmore_any _ _ W
              cases hmo : moreB ((1 : Int) == 2) (((ByteArray.mk s.toArray)[k]'hlt).toNat : Int)
              · rw [hmo] at HM hst
                have HST := Lib.hid hst
                clear hst hmo
                refine hx_begin (S := fun W => Since wr W) (by kernel_rfl) h0 (by kernel_rfl) (fun _ _ _ _ _ h => h) (fun hns hQ => ?_)
                refine hx_take (i := 0) (oi := _) (v := .int .i64 (k : Int)) rfl rfl hns (by kernel_rfl) (by kernel_rfl) hQ (by kernel_rfl) (fun _ _ => by kernel_rfl) h0 ?_
                refine hx_take (i := 1) (oi := _) (v := .string ⟨s.toArray⟩) rfl rfl hns (by kernel_rfl) (by kernel_rfl) hQ (by kernel_rfl) (fun _ _ => by kernel_rfl) h0 ?_
                refine hx_take (i := 2) (oi := _) (v := .int .i64 (s.length : Int)) rfl rfl hns (by kernel_rfl) (by kernel_rfl) hQ (by kernel_rfl) (fun _ _ => by kernel_rfl) h0 ?_
                refine hx_take (i := 3) (oi := _) (v := .bool true) rfl rfl hns (by kernel_rfl) (by kernel_rfl) hQ (by kernel_rfl) (fun W _ => lss_is rfl (by kernel_rfl) (by kernel_rfl) hd W) h0 ?_
                refine hx_take (i := 4) (oi := _) (v := .bool true) rfl rfl hns (by kernel_rfl) (by kernel_rfl) hQ (by kernel_rfl) (fun _ _ => by kernel_rfl) h0 ?_
                refine hx_take (i := 5) (oi := _) (v := .pointer (some ⟨w.heap.size + 1, 0, none⟩)) rfl rfl hns (by kernel_rfl) (by kernel_rfl) hQ (by kernel_rfl) (fun _ _ => by kernel_rfl) h0 ?_
                refine hx_take (i := 6) (oi := _) (v := .int .i64 1) rfl rfl hns (by kernel_rfl) (by kernel_rfl) hQ (by kernel_rfl) (fun W hW => ld_one rfl (by kernel_rfl) (by kernel_rfl) W (hW.cell kc)) h0 ?_
                refine hx_take (i := 7) (oi := _) (v := .string ⟨s.toArray⟩) rfl rfl hns (by kernel_rfl) (by kernel_rfl) hQ (by kernel_rfl) (fun _ _ => by kernel_rfl) h0 ?_
                refine hx_take (i := 8) (oi := _) (v := .int .i64 (k : Int)) rfl rfl hns (by kernel_rfl) (by kernel_rfl) hQ (by kernel_rfl) (fun _ _ => by kernel_rfl) h0 ?_
                refine hx_take (i := 9) (oi := _) (v := .int .u8 (((ByteArray.mk s.toArray)[k]'hlt).toNat : Int)) rfl rfl hns (by kernel_rfl) (by kernel_rfl) hQ (by kernel_rfl) (fun W _ => ix_str rfl (by kernel_rfl) (by kernel_rfl) hlt W) h0 ?_
                refine hx_call (i := 10) (oi := _) 46 #[.int .i64 1, .int .u8 (((ByteArray.mk s.toArray)[k]'hlt).toNat : Int)] rfl rfl (by kernel_rfl) (by kernel_rfl) (by kernel_rfl) (HM.out _) ?_
                rintro e w' ⟨rfl, rfl⟩
                refine ⟨_, rfl, h0, ?_⟩
                refine hx_take (i := 11) (oi := _) (v := .bool false) rfl rfl hns (by kernel_rfl) (by kernel_rfl) hQ (by kernel_rfl) (fun _ _ => by kernel_rfl) h0 ?_
                refine wpAnyH_done (by kernel_rfl) ?_ _
                clear hns hQ
                simp only [List.set_cons_zero, List.set_cons_succ]
                have hRk : R = k := by have h := hres.out; rw [HST.out, if_neg (by simp)] at h; omega
                have hS2 : Since W1 wr.drew := hs1r.drew
                replace c0 := (show wr.drew.heap[w.heap.size]? = _ from c0)
                replace c1 := (show wr.drew.heap[w.heap.size + 1]? = _ from c1)
                obtain rfl := hRk
                clear kc hs1r h0 hres HR hb0 hb1
                generalize wr.drew = W2 at *
                have hsub : IntKind.i64.wrap ((R : Int) - (i : Int)) = ((R - i : Nat) : Int) := by rw [IntWalk.i64_in] <;> omega
                have z0 : W2.cell? ⟨w.heap.size, 0, none⟩ = some (.int .i64 0) := cell_of_row _ _ _ _ _ _ c0
                have z1 : W2.cell? ⟨w.heap.size, 1, none⟩ = some (.string ⟨#[]⟩) := cell_of_row _ _ _ _ _ _ c0
                have z2 : W2.cell? ⟨w.heap.size, 2, none⟩ = some (.int .i64 0) := cell_of_row _ _ _ _ _ _ c0
                have y0 : W2.cell? ⟨w.heap.size + 1, 0, none⟩ = some (.int .i64 1) := cell_of_row _ _ _ _ _ _ c1
                have y1 : W2.cell? ⟨w.heap.size + 1, 1, none⟩ = some (.string ⟨#[]⟩) := cell_of_row _ _ _ _ _ _ c1
                have y2 : W2.cell? ⟨w.heap.size + 1, 2, none⟩ = some (.int .i64 (i : Int)) := cell_of_row _ _ _ _ _ _ c1
                have zf0 : W2.frozen? ⟨w.heap.size, 0, none⟩ = false := frozen_of_row _ _ _ _ _ c0
                have zf1 : W2.frozen? ⟨w.heap.size, 1, none⟩ = false := frozen_of_row _ _ _ _ _ c0
                have zf2 : W2.frozen? ⟨w.heap.size, 2, none⟩ = false := frozen_of_row _ _ _ _ _ c0
                have yf : W2.frozen? ⟨w.heap.size + 1, 1, none⟩ = false := frozen_of_row _ _ _ _ _ c1
                have zl : w.heap.size < W2.heap.size := (Array.getElem?_eq_some_iff.1 c0).1
                have yl : w.heap.size + 1 < W2.heap.size := (Array.getElem?_eq_some_iff.1 c1).1
                have hwS : w.heap.size ≤ w.heap.size + 1 := by omega
                have hm := HMid.out
                by_cases hq : 255 < R - i
                · have hq1 : (255 : Int) < ((R - i : Nat) : Int) := by omega
                  have H0 := Lib.hid c0
                  have HS2 := Lib.hid (hS.trans hS2)
                  clear c0 c1 hS2 hq
                  go_wp2_with fail
                  refine bodyPost_ret (res_tok (g := w.heap.size) rfl rfl (heap_setCell_same _ _ _ _ _ _ (heap_setCell_same _ _ _ _ _ _ (heap_setCell_same _ _ _ _ _ _ H0.out))) rfl) rfl ?_
                  exact (HP.out _ (((HS2.out.setCell (p := ⟨w.heap.size, 0, none⟩) (Nat.le_refl _) _).setCell (p := ⟨w.heap.size, 1, none⟩) (Nat.le_refl _) _).setCell (p := ⟨w.heap.size, 2, none⟩) (Nat.le_refl _) _)).1 (by omega)
                · have hq1 : ¬ (255 : Int) < ((R - i : Nat) : Int) := by omega
                  have H0 := Lib.hid c0
                  have HS2 := Lib.hid (hS.trans hS2)
                  clear c0 c1 hS2
                  go_wp2_with fail
                  refine bodyPost_ret (res_tok (g := w.heap.size) rfl rfl (heap_setCell_same _ _ _ _ _ _ (heap_setCell_same _ _ _ _ _ _ (heap_setCell_same _ _ _ _ _ _ ((heap_setCell_other _ _ _ _ (by show w.heap.size ≠ w.heap.size + 1; omega)).trans H0.out)))) rfl) rfl ?_
                  exact (HP.out _ ((((HS2.out.setCell (p := ⟨w.heap.size + 1, 1, none⟩) hwS _).setCell (p := ⟨w.heap.size, 0, none⟩) (Nat.le_refl _) _).setCell (p := ⟨w.heap.size, 1, none⟩) (Nat.le_refl _) _).setCell (p := ⟨w.heap.size, 2, none⟩) (Nat.le_refl _) _)).2 (by omega)
              · rw [hmo] at HM hst
                have HST := Lib.hid hst
                clear hst hmo
                refine hx_begin (S := fun W => Since wr W) (by kernel_rfl) h0 (by kernel_rfl) (fun _ _ _ _ _ h => h) (fun hns hQ => ?_)
                refine hx_take (i := 0) (oi := _) (v := .int .i64 (k : Int)) rfl rfl hns (by kernel_rfl) (by kernel_rfl) hQ (by kernel_rfl) (fun _ _ => by kernel_rfl) h0 ?_
                refine hx_take (i := 1) (oi := _) (v := .string ⟨s.toArray⟩) rfl rfl hns (by kernel_rfl) (by kernel_rfl) hQ (by kernel_rfl) (fun _ _ => by kernel_rfl) h0 ?_
                refine hx_take (i := 2) (oi := _) (v := .int .i64 (s.length : Int)) rfl rfl hns (by kernel_rfl) (by kernel_rfl) hQ (by kernel_rfl) (fun _ _ => by kernel_rfl) h0 ?_
                refine hx_take (i := 3) (oi := _) (v := .bool true) rfl rfl hns (by kernel_rfl) (by kernel_rfl) hQ (by kernel_rfl) (fun W _ => lss_is rfl (by kernel_rfl) (by kernel_rfl) hd W) h0 ?_
                refine hx_take (i := 4) (oi := _) (v := .bool true) rfl rfl hns (by kernel_rfl) (by kernel_rfl) hQ (by kernel_rfl) (fun _ _ => by kernel_rfl) h0 ?_
                refine hx_take (i := 5) (oi := _) (v := .pointer (some ⟨w.heap.size + 1, 0, none⟩)) rfl rfl hns (by kernel_rfl) (by kernel_rfl) hQ (by kernel_rfl) (fun _ _ => by kernel_rfl) h0 ?_
                refine hx_take (i := 6) (oi := _) (v := .int .i64 1) rfl rfl hns (by kernel_rfl) (by kernel_rfl) hQ (by kernel_rfl) (fun W hW => ld_one rfl (by kernel_rfl) (by kernel_rfl) W (hW.cell kc)) h0 ?_
                refine hx_take (i := 7) (oi := _) (v := .string ⟨s.toArray⟩) rfl rfl hns (by kernel_rfl) (by kernel_rfl) hQ (by kernel_rfl) (fun _ _ => by kernel_rfl) h0 ?_
                refine hx_take (i := 8) (oi := _) (v := .int .i64 (k : Int)) rfl rfl hns (by kernel_rfl) (by kernel_rfl) hQ (by kernel_rfl) (fun _ _ => by kernel_rfl) h0 ?_
                refine hx_take (i := 9) (oi := _) (v := .int .u8 (((ByteArray.mk s.toArray)[k]'hlt).toNat : Int)) rfl rfl hns (by kernel_rfl) (by kernel_rfl) hQ (by kernel_rfl) (fun W _ => ix_str rfl (by kernel_rfl) (by kernel_rfl) hlt W) h0 ?_
                refine hx_call (i := 10) (oi := _) 46 #[.int .i64 1, .int .u8 (((ByteArray.mk s.toArray)[k]'hlt).toNat : Int)] rfl rfl (by kernel_rfl) (by kernel_rfl) (by kernel_rfl) (HM.out _) ?_
                rintro e w' ⟨rfl, rfl⟩
                refine ⟨_, rfl, h0, ?_⟩
                refine hx_take (i := 11) (oi := _) (v := .bool true) rfl rfl hns (by kernel_rfl) (by kernel_rfl) hQ (by kernel_rfl) (fun _ _ => by kernel_rfl) h0 ?_
                refine wpAnyH_done (by kernel_rfl) ?_ _
                clear hns hQ
                simp only [List.set_cons_zero, List.set_cons_succ]
                have hres2 : Hid (R = k + 1 + runL (s.drop (k + 1)) 1) := by
                  show _ = _
                  rw [hres.out, HST.out, if_pos rfl]; omega
                go_wp2_with fail
                go_roundw
                case rel => exact ⟨k + 1, by omega, by omega, by go_num, hres2, hs1r.drew⟩
                case measure => simp [intOf]; omega
            · have hd : decide ((k : Int) < (s.length : Int)) = false := decide_eq_false (by omega)
              refine hx_begin (S := fun W => Since wr W) (by kernel_rfl) h0 (by kernel_rfl) (fun _ _ _ _ _ h => h) (fun hns hQ => ?_)
              refine hx_take (i := 0) (oi := _) (v := .int .i64 (k : Int)) rfl rfl hns (by kernel_rfl) (by kernel_rfl) hQ (by kernel_rfl) (fun _ _ => by kernel_rfl) h0 ?_
              refine hx_take (i := 1) (oi := _) (v := .string ⟨s.toArray⟩) rfl rfl hns (by kernel_rfl) (by kernel_rfl) hQ (by kernel_rfl) (fun _ _ => by kernel_rfl) h0 ?_
              refine hx_take (i := 2) (oi := _) (v := .int .i64 (s.length : Int)) rfl rfl hns (by kernel_rfl) (by kernel_rfl) hQ (by kernel_rfl) (fun _ _ => by kernel_rfl) h0 ?_
              refine hx_take (i := 3) (oi := _) (v := .bool false) rfl rfl hns (by kernel_rfl) (by kernel_rfl) hQ (by kernel_rfl) (fun W _ => lss_is rfl (by kernel_rfl) (by kernel_rfl) hd W) h0 ?_
              refine hx_take (i := 4) (oi := _) (v := .bool false) rfl rfl hns (by kernel_rfl) (by kernel_rfl) hQ (by kernel_rfl) (fun _ _ => by kernel_rfl) h0 ?_
              refine hx_off (i := 5) (oi := _) rfl rfl hns (by kernel_rfl) (by kernel_rfl) hQ (by kernel_rfl) h0 ?_
              refine hx_off (i := 6) (oi := _) rfl rfl hns (by kernel_rfl) (by kernel_rfl) hQ (by kernel_rfl) h0 ?_
              refine hx_off (i := 7) (oi := _) rfl rfl hns (by kernel_rfl) (by kernel_rfl) hQ (by kernel_rfl) h0 ?_
              refine hx_off (i := 8) (oi := _) rfl rfl hns (by kernel_rfl) (by kernel_rfl) hQ (by kernel_rfl) h0 ?_
              refine hx_off (i := 9) (oi := _) rfl rfl hns (by kernel_rfl) (by kernel_rfl) hQ (by kernel_rfl) h0 ?_
              refine hx_off (i := 10) (oi := _) rfl rfl hns (by kernel_rfl) (by kernel_rfl) hQ (by kernel_rfl) h0 ?_
              refine hx_take (i := 11) (oi := _) (v := .bool false) rfl rfl hns (by kernel_rfl) (by kernel_rfl) hQ (by kernel_rfl) (fun _ _ => by kernel_rfl) h0 ?_
              refine wpAnyH_done (by kernel_rfl) ?_ _
              clear hns hQ
              simp only [List.set_cons_zero, List.set_cons_succ]
              have hRk : R = k := by have h := hres.out; rw [List.drop_eq_nil_of_le (by omega)] at h; exact h
              have hS2 : Since W1 wr.drew := hs1r.drew
              replace c0 := (show wr.drew.heap[w.heap.size]? = _ from c0)
              replace c1 := (show wr.drew.heap[w.heap.size + 1]? = _ from c1)
              obtain rfl := hRk
              clear kc hs1r h0 hres HR hb0 hb1
              generalize wr.drew = W2 at *
              have hsub : IntKind.i64.wrap ((R : Int) - (i : Int)) = ((R - i : Nat) : Int) := by rw [IntWalk.i64_in] <;> omega
              have z0 : W2.cell? ⟨w.heap.size, 0, none⟩ = some (.int .i64 0) := cell_of_row _ _ _ _ _ _ c0
              have z1 : W2.cell? ⟨w.heap.size, 1, none⟩ = some (.string ⟨#[]⟩) := cell_of_row _ _ _ _ _ _ c0
              have z2 : W2.cell? ⟨w.heap.size, 2, none⟩ = some (.int .i64 0) := cell_of_row _ _ _ _ _ _ c0
              have y0 : W2.cell? ⟨w.heap.size + 1, 0, none⟩ = some (.int .i64 1) := cell_of_row _ _ _ _ _ _ c1
              have y1 : W2.cell? ⟨w.heap.size + 1, 1, none⟩ = some (.string ⟨#[]⟩) := cell_of_row _ _ _ _ _ _ c1
              have y2 : W2.cell? ⟨w.heap.size + 1, 2, none⟩ = some (.int .i64 (i : Int)) := cell_of_row _ _ _ _ _ _ c1
              have zf0 : W2.frozen? ⟨w.heap.size, 0, none⟩ = false := frozen_of_row _ _ _ _ _ c0
              have zf1 : W2.frozen? ⟨w.heap.size, 1, none⟩ = false := frozen_of_row _ _ _ _ _ c0
              have zf2 : W2.frozen? ⟨w.heap.size, 2, none⟩ = false := frozen_of_row _ _ _ _ _ c0
              have yf : W2.frozen? ⟨w.heap.size + 1, 1, none⟩ = false := frozen_of_row _ _ _ _ _ c1
              have zl : w.heap.size < W2.heap.size := (Array.getElem?_eq_some_iff.1 c0).1
              have yl : w.heap.size + 1 < W2.heap.size := (Array.getElem?_eq_some_iff.1 c1).1
              have hwS : w.heap.size ≤ w.heap.size + 1 := by omega
              have hm := HMid.out
              by_cases hq : 255 < R - i
              · have hq1 : (255 : Int) < ((R - i : Nat) : Int) := by omega
                have H0 := Lib.hid c0
                have HS2 := Lib.hid (hS.trans hS2)
                clear c0 c1 hS2 hq
                go_wp2_with fail
                refine bodyPost_ret (res_tok (g := w.heap.size) rfl rfl (heap_setCell_same _ _ _ _ _ _ (heap_setCell_same _ _ _ _ _ _ (heap_setCell_same _ _ _ _ _ _ H0.out))) rfl) rfl ?_
                exact (HP.out _ (((HS2.out.setCell (p := ⟨w.heap.size, 0, none⟩) (Nat.le_refl _) _).setCell (p := ⟨w.heap.size, 1, none⟩) (Nat.le_refl _) _).setCell (p := ⟨w.heap.size, 2, none⟩) (Nat.le_refl _) _)).1 (by omega)
              · have hq1 : ¬ (255 : Int) < ((R - i : Nat) : Int) := by omega
                have H0 := Lib.hid c0
                have HS2 := Lib.hid (hS.trans hS2)
                clear c0 c1 hS2
                go_wp2_with fail
                refine bodyPost_ret (res_tok (g := w.heap.size) rfl rfl (heap_setCell_same _ _ _ _ _ _ (heap_setCell_same _ _ _ _ _ _ (heap_setCell_same _ _ _ _ _ _ ((heap_setCell_other _ _ _ _ (by show w.heap.size ≠ w.heap.size + 1; omega)).trans H0.out)))) rfl) rfl ?_
                exact (HP.out _ ((((HS2.out.setCell (p := ⟨w.heap.size + 1, 1, none⟩) hwS _).setCell (p := ⟨w.heap.size, 0, none⟩) (Nat.le_refl _) _).setCell (p := ⟨w.heap.size, 1, none⟩) (Nat.le_refl _) _).setCell (p := ⟨w.heap.size, 2, none⟩) (Nat.le_refl _) _)).2 (by omega)
        · have hm2 : True := trivial
          have ht := tok_first hi hs1 hg1 hf1
          obtain ⟨R, hR⟩ : ∃ R, Hid (R = i + runL (s.drop i) 1) := ⟨_, rfl⟩
          have hRl : R ≤ s.length := by
            have := runL_le (s.drop i) 1
            rw [List.length_drop] at this
            have := hR.out
            omega
          have hRi : i ≤ R := by have := hR.out; omega
          have hr9 : runL (s.drop i) 1 = R - i := by have := hR.out; omega
          rw [← hR.out, hr9] at ht
          have hP : ∀ W, Since w W → (255 < R - i → RtPost s i w (.returned (.tuple #[.agg #[.int .i64 0, .string ⟨#[]⟩, .int .i64 0], .int .i64 4])) W) ∧ (R - i ≤ 255 → RtPost s i w (.returned (.tuple #[.agg #[.int .i64 1, .string ⟨((s.take R).drop i).toArray⟩, .int .i64 (i : Int)], .int .i64 0])) W) := fun W h => by
            refine ⟨fun hq => ⟨h, ?_⟩, fun hq => ⟨h, ?_⟩⟩
            · rw [ht, if_neg (by omega)]
            · rw [ht, if_pos hq]
          have HP := Lib.hid hP
          have hm : ∀ W, (Instr.slice 9 (.string ⟨s.toArray⟩) (some (.int .i64 i)) (some (.int .i64 R)) none).run Try.prog W = .ok (.string ⟨((s.take R).drop i).toArray⟩) W := fun W => run_mid hRi hRl W
          have HR := Lib.hid hR.out
          have HMid := Lib.hid hm
          generalize (s.take R).drop i = T at *
          clear hP ht hr9 hR hm
          clear hf1
          go_enter Try.func40, Try.ntmps40
          go_wp2_with (first | (go_at_call 45; refine (rin_sign _ _).mono ?_; rintro e w' ⟨rfl, rfl⟩) | (go_at_call 20; refine (rGreat_any _ _).mono ?_; rintro e w' ⟨rfl, rfl⟩) | (go_at_call 21; refine (rSmall_any _ _).mono ?_; rintro e w' ⟨rfl, rfl⟩) | (go_at_call 22; refine (rDigit_any _ _).mono ?_; rintro e w' ⟨rfl, rfl⟩))
          clear hS hm1 hm2 hs1 hg1
          have hS : Since w ((w.alloc (.cells #[.int .i64 0, .string ⟨#[]⟩, .int .i64 0] 25)).alloc (.cells #[.int .i64 1, .string ⟨#[]⟩, .int .i64 (i : Int)] 25)) := ((Since.refl w).alloc _).alloc _
          have hb0 : ((w.alloc (.cells #[.int .i64 0, .string ⟨#[]⟩, .int .i64 0] 25)).alloc (.cells #[.int .i64 1, .string ⟨#[]⟩, .int .i64 (i : Int)] 25)).heap[w.heap.size]? = some (.cells #[.int .i64 0, .string ⟨#[]⟩, .int .i64 0] 25 (0, 0)) := blk_alloc (heap_alloc_new _ _) _
          have hb1 : ((w.alloc (.cells #[.int .i64 0, .string ⟨#[]⟩, .int .i64 0] 25)).alloc (.cells #[.int .i64 1, .string ⟨#[]⟩, .int .i64 (i : Int)] 25)).heap[w.heap.size + 1]? = some (.cells #[.int .i64 1, .string ⟨#[]⟩, .int .i64 (i : Int)] 25 (0, 0)) := heap_alloc2_new _ _ _
          generalize (w.alloc (.cells #[.int .i64 0, .string ⟨#[]⟩, .int .i64 0] 25)).alloc (.cells #[.int .i64 1, .string ⟨#[]⟩, .int .i64 (i : Int)] 25) = W1 at *
          go_loopw [7] (fun m wr => ∃ k : Nat, i ≤ k ∧ k ≤ s.length ∧ m = .int .i64 (k : Int) ∧ Hid (R = k + runL (s.drop k) 1) ∧ Since W1 wr) (fun m _ => s.length - (intOf m).toNat)
          case atStart => exact ⟨i, by omega, by omega, rfl, HR.out, Since.refl _⟩
          case round =>
            obtain ⟨k, hik, hk, rfl, hres, hs1r⟩ := hrel
            have c0 : wr.heap[w.heap.size]? = some (.cells #[.int .i64 0, .string ⟨#[]⟩, .int .i64 0] 25 (0, 0)) := (Below.block hs1r _ (Array.getElem?_eq_some_iff.1 hb0).1).trans hb0
            have c1 : wr.heap[w.heap.size + 1]? = some (.cells #[.int .i64 1, .string ⟨#[]⟩, .int .i64 (i : Int)] 25 (0, 0)) := (Below.block hs1r _ (Array.getElem?_eq_some_iff.1 hb1).1).trans hb1
            have kc : wr.cell? ⟨w.heap.size + 1, 0, none⟩ = some (.int .i64 1) := cell_of_row _ _ _ _ _ _ c1
            go_wp2_with fail
            have h0 := (Since.refl wr).drew
            by_cases hlt : k < s.length
            · have hst := run_step (tok := 1) hlt
              have hd : decide ((k : Int) < (s.length : Int)) = true := decide_eq_true (by omega)
              have HM : Hid (∀ W, Calls Try.prog 46 #[.int .i64 1, .int .u8 (((ByteArray.mk s.toArray)[k]'hlt).toNat : Int)] W fun e w' => e = .returned (.bool (moreB ((1 : Int) == 2) (((ByteArray.mk s.toArray)[k]'hlt).toNat : Int))) ∧ W = w') := fun W => rmore_any _ _ W
              cases hmo : moreB ((1 : Int) == 2) (((ByteArray.mk s.toArray)[k]'hlt).toNat : Int)
              · rw [hmo] at HM hst
                have HST := Lib.hid hst
                clear hst hmo
                refine hx_begin (S := fun W => Since wr W) (by kernel_rfl) h0 (by kernel_rfl) (fun _ _ _ _ _ h => h) (fun hns hQ => ?_)
                refine hx_take (i := 0) (oi := _) (v := .int .i64 (k : Int)) rfl rfl hns (by kernel_rfl) (by kernel_rfl) hQ (by kernel_rfl) (fun _ _ => by kernel_rfl) h0 ?_
                refine hx_take (i := 1) (oi := _) (v := .string ⟨s.toArray⟩) rfl rfl hns (by kernel_rfl) (by kernel_rfl) hQ (by kernel_rfl) (fun _ _ => by kernel_rfl) h0 ?_
                refine hx_take (i := 2) (oi := _) (v := .int .i64 (s.length : Int)) rfl rfl hns (by kernel_rfl) (by kernel_rfl) hQ (by kernel_rfl) (fun _ _ => by kernel_rfl) h0 ?_
                refine hx_take (i := 3) (oi := _) (v := .bool true) rfl rfl hns (by kernel_rfl) (by kernel_rfl) hQ (by kernel_rfl) (fun W _ => lss_is rfl (by kernel_rfl) (by kernel_rfl) hd W) h0 ?_
                refine hx_take (i := 4) (oi := _) (v := .bool true) rfl rfl hns (by kernel_rfl) (by kernel_rfl) hQ (by kernel_rfl) (fun _ _ => by kernel_rfl) h0 ?_
                refine hx_take (i := 5) (oi := _) (v := .pointer (some ⟨w.heap.size + 1, 0, none⟩)) rfl rfl hns (by kernel_rfl) (by kernel_rfl) hQ (by kernel_rfl) (fun _ _ => by kernel_rfl) h0 ?_
                refine hx_take (i := 6) (oi := _) (v := .int .i64 1) rfl rfl hns (by kernel_rfl) (by kernel_rfl) hQ (by kernel_rfl) (fun W hW => ld_one rfl (by kernel_rfl) (by kernel_rfl) W (hW.cell kc)) h0 ?_
                refine hx_take (i := 7) (oi := _) (v := .string ⟨s.toArray⟩) rfl rfl hns (by kernel_rfl) (by kernel_rfl) hQ (by kernel_rfl) (fun _ _ => by kernel_rfl) h0 ?_
                refine hx_take (i := 8) (oi := _) (v := .int .i64 (k : Int)) rfl rfl hns (by kernel_rfl) (by kernel_rfl) hQ (by kernel_rfl) (fun _ _ => by kernel_rfl) h0 ?_
                refine hx_take (i := 9) (oi := _) (v := .int .u8 (((ByteArray.mk s.toArray)[k]'hlt).toNat : Int)) rfl rfl hns (by kernel_rfl) (by kernel_rfl) hQ (by kernel_rfl) (fun W _ => ix_str rfl (by kernel_rfl) (by kernel_rfl) hlt W) h0 ?_
                refine hx_call (i := 10) (oi := _) 46 #[.int .i64 1, .int .u8 (((ByteArray.mk s.toArray)[k]'hlt).toNat : Int)] rfl rfl (by kernel_rfl) (by kernel_rfl) (by kernel_rfl) (HM.out _) ?_
                rintro e w' ⟨rfl, rfl⟩
                refine ⟨_, rfl, h0, ?_⟩
                refine hx_take (i := 11) (oi := _) (v := .bool false) rfl rfl hns (by kernel_rfl) (by kernel_rfl) hQ (by kernel_rfl) (fun _ _ => by kernel_rfl) h0 ?_
                refine wpAnyH_done (by kernel_rfl) ?_ _
                clear hns hQ
                simp only [List.set_cons_zero, List.set_cons_succ]
                have hRk : R = k := by have h := hres.out; rw [HST.out, if_neg (by simp)] at h; omega
                have hS2 : Since W1 wr.drew := hs1r.drew
                replace c0 := (show wr.drew.heap[w.heap.size]? = _ from c0)
                replace c1 := (show wr.drew.heap[w.heap.size + 1]? = _ from c1)
                obtain rfl := hRk
                clear kc hs1r h0 hres HR hb0 hb1
                generalize wr.drew = W2 at *
                have hsub : IntKind.i64.wrap ((R : Int) - (i : Int)) = ((R - i : Nat) : Int) := by rw [IntWalk.i64_in] <;> omega
                have z0 : W2.cell? ⟨w.heap.size, 0, none⟩ = some (.int .i64 0) := cell_of_row _ _ _ _ _ _ c0
                have z1 : W2.cell? ⟨w.heap.size, 1, none⟩ = some (.string ⟨#[]⟩) := cell_of_row _ _ _ _ _ _ c0
                have z2 : W2.cell? ⟨w.heap.size, 2, none⟩ = some (.int .i64 0) := cell_of_row _ _ _ _ _ _ c0
                have y0 : W2.cell? ⟨w.heap.size + 1, 0, none⟩ = some (.int .i64 1) := cell_of_row _ _ _ _ _ _ c1
                have y1 : W2.cell? ⟨w.heap.size + 1, 1, none⟩ = some (.string ⟨#[]⟩) := cell_of_row _ _ _ _ _ _ c1
                have y2 : W2.cell? ⟨w.heap.size + 1, 2, none⟩ = some (.int .i64 (i : Int)) := cell_of_row _ _ _ _ _ _ c1
                have zf0 : W2.frozen? ⟨w.heap.size, 0, none⟩ = false := frozen_of_row _ _ _ _ _ c0
                have zf1 : W2.frozen? ⟨w.heap.size, 1, none⟩ = false := frozen_of_row _ _ _ _ _ c0
                have zf2 : W2.frozen? ⟨w.heap.size, 2, none⟩ = false := frozen_of_row _ _ _ _ _ c0
                have yf : W2.frozen? ⟨w.heap.size + 1, 1, none⟩ = false := frozen_of_row _ _ _ _ _ c1
                have zl : w.heap.size < W2.heap.size := (Array.getElem?_eq_some_iff.1 c0).1
                have yl : w.heap.size + 1 < W2.heap.size := (Array.getElem?_eq_some_iff.1 c1).1
                have hwS : w.heap.size ≤ w.heap.size + 1 := by omega
                have hm := HMid.out
                by_cases hq : 255 < R - i
                · have hq1 : (255 : Int) < ((R - i : Nat) : Int) := by omega
                  have H0 := Lib.hid c0
                  have HS2 := Lib.hid (hS.trans hS2)
                  clear c0 c1 hS2 hq
                  go_wp2_with fail
                  refine bodyPost_ret (res_tok (g := w.heap.size) rfl rfl (heap_setCell_same _ _ _ _ _ _ (heap_setCell_same _ _ _ _ _ _ (heap_setCell_same _ _ _ _ _ _ H0.out))) rfl) rfl ?_
                  exact (HP.out _ (((HS2.out.setCell (p := ⟨w.heap.size, 0, none⟩) (Nat.le_refl _) _).setCell (p := ⟨w.heap.size, 1, none⟩) (Nat.le_refl _) _).setCell (p := ⟨w.heap.size, 2, none⟩) (Nat.le_refl _) _)).1 (by omega)
                · have hq1 : ¬ (255 : Int) < ((R - i : Nat) : Int) := by omega
                  have H0 := Lib.hid c0
                  have HS2 := Lib.hid (hS.trans hS2)
                  clear c0 c1 hS2
                  go_wp2_with fail
                  refine bodyPost_ret (res_tok (g := w.heap.size) rfl rfl (heap_setCell_same _ _ _ _ _ _ (heap_setCell_same _ _ _ _ _ _ (heap_setCell_same _ _ _ _ _ _ ((heap_setCell_other _ _ _ _ (by show w.heap.size ≠ w.heap.size + 1; omega)).trans H0.out)))) rfl) rfl ?_
                  exact (HP.out _ ((((HS2.out.setCell (p := ⟨w.heap.size + 1, 1, none⟩) hwS _).setCell (p := ⟨w.heap.size, 0, none⟩) (Nat.le_refl _) _).setCell (p := ⟨w.heap.size, 1, none⟩) (Nat.le_refl _) _).setCell (p := ⟨w.heap.size, 2, none⟩) (Nat.le_refl _) _)).2 (by omega)
              · rw [hmo] at HM hst
                have HST := Lib.hid hst
                clear hst hmo
                refine hx_begin (S := fun W => Since wr W) (by kernel_rfl) h0 (by kernel_rfl) (fun _ _ _ _ _ h => h) (fun hns hQ => ?_)
                refine hx_take (i := 0) (oi := _) (v := .int .i64 (k : Int)) rfl rfl hns (by kernel_rfl) (by kernel_rfl) hQ (by kernel_rfl) (fun _ _ => by kernel_rfl) h0 ?_
                refine hx_take (i := 1) (oi := _) (v := .string ⟨s.toArray⟩) rfl rfl hns (by kernel_rfl) (by kernel_rfl) hQ (by kernel_rfl) (fun _ _ => by kernel_rfl) h0 ?_
                refine hx_take (i := 2) (oi := _) (v := .int .i64 (s.length : Int)) rfl rfl hns (by kernel_rfl) (by kernel_rfl) hQ (by kernel_rfl) (fun _ _ => by kernel_rfl) h0 ?_
                refine hx_take (i := 3) (oi := _) (v := .bool true) rfl rfl hns (by kernel_rfl) (by kernel_rfl) hQ (by kernel_rfl) (fun W _ => lss_is rfl (by kernel_rfl) (by kernel_rfl) hd W) h0 ?_
                refine hx_take (i := 4) (oi := _) (v := .bool true) rfl rfl hns (by kernel_rfl) (by kernel_rfl) hQ (by kernel_rfl) (fun _ _ => by kernel_rfl) h0 ?_
                refine hx_take (i := 5) (oi := _) (v := .pointer (some ⟨w.heap.size + 1, 0, none⟩)) rfl rfl hns (by kernel_rfl) (by kernel_rfl) hQ (by kernel_rfl) (fun _ _ => by kernel_rfl) h0 ?_
                refine hx_take (i := 6) (oi := _) (v := .int .i64 1) rfl rfl hns (by kernel_rfl) (by kernel_rfl) hQ (by kernel_rfl) (fun W hW => ld_one rfl (by kernel_rfl) (by kernel_rfl) W (hW.cell kc)) h0 ?_
                refine hx_take (i := 7) (oi := _) (v := .string ⟨s.toArray⟩) rfl rfl hns (by kernel_rfl) (by kernel_rfl) hQ (by kernel_rfl) (fun _ _ => by kernel_rfl) h0 ?_
                refine hx_take (i := 8) (oi := _) (v := .int .i64 (k : Int)) rfl rfl hns (by kernel_rfl) (by kernel_rfl) hQ (by kernel_rfl) (fun _ _ => by kernel_rfl) h0 ?_
                refine hx_take (i := 9) (oi := _) (v := .int .u8 (((ByteArray.mk s.toArray)[k]'hlt).toNat : Int)) rfl rfl hns (by kernel_rfl) (by kernel_rfl) hQ (by kernel_rfl) (fun W _ => ix_str rfl (by kernel_rfl) (by kernel_rfl) hlt W) h0 ?_
                refine hx_call (i := 10) (oi := _) 46 #[.int .i64 1, .int .u8 (((ByteArray.mk s.toArray)[k]'hlt).toNat : Int)] rfl rfl (by kernel_rfl) (by kernel_rfl) (by kernel_rfl) (HM.out _) ?_
                rintro e w' ⟨rfl, rfl⟩
                refine ⟨_, rfl, h0, ?_⟩
                refine hx_take (i := 11) (oi := _) (v := .bool true) rfl rfl hns (by kernel_rfl) (by kernel_rfl) hQ (by kernel_rfl) (fun _ _ => by kernel_rfl) h0 ?_
                refine wpAnyH_done (by kernel_rfl) ?_ _
                clear hns hQ
                simp only [List.set_cons_zero, List.set_cons_succ]
                have hres2 : Hid (R = k + 1 + runL (s.drop (k + 1)) 1) := by
                  show _ = _
                  rw [hres.out, HST.out, if_pos rfl]; omega
                go_wp2_with fail
                go_roundw
                case rel => exact ⟨k + 1, by omega, by omega, by go_num, hres2, hs1r.drew⟩
                case measure => simp [intOf]; omega
            · have hd : decide ((k : Int) < (s.length : Int)) = false := decide_eq_false (by omega)
              refine hx_begin (S := fun W => Since wr W) (by kernel_rfl) h0 (by kernel_rfl) (fun _ _ _ _ _ h => h) (fun hns hQ => ?_)
              refine hx_take (i := 0) (oi := _) (v := .int .i64 (k : Int)) rfl rfl hns (by kernel_rfl) (by kernel_rfl) hQ (by kernel_rfl) (fun _ _ => by kernel_rfl) h0 ?_
              refine hx_take (i := 1) (oi := _) (v := .string ⟨s.toArray⟩) rfl rfl hns (by kernel_rfl) (by kernel_rfl) hQ (by kernel_rfl) (fun _ _ => by kernel_rfl) h0 ?_
              refine hx_take (i := 2) (oi := _) (v := .int .i64 (s.length : Int)) rfl rfl hns (by kernel_rfl) (by kernel_rfl) hQ (by kernel_rfl) (fun _ _ => by kernel_rfl) h0 ?_
              refine hx_take (i := 3) (oi := _) (v := .bool false) rfl rfl hns (by kernel_rfl) (by kernel_rfl) hQ (by kernel_rfl) (fun W _ => lss_is rfl (by kernel_rfl) (by kernel_rfl) hd W) h0 ?_
              refine hx_take (i := 4) (oi := _) (v := .bool false) rfl rfl hns (by kernel_rfl) (by kernel_rfl) hQ (by kernel_rfl) (fun _ _ => by kernel_rfl) h0 ?_
              refine hx_off (i := 5) (oi := _) rfl rfl hns (by kernel_rfl) (by kernel_rfl) hQ (by kernel_rfl) h0 ?_
              refine hx_off (i := 6) (oi := _) rfl rfl hns (by kernel_rfl) (by kernel_rfl) hQ (by kernel_rfl) h0 ?_
              refine hx_off (i := 7) (oi := _) rfl rfl hns (by kernel_rfl) (by kernel_rfl) hQ (by kernel_rfl) h0 ?_
              refine hx_off (i := 8) (oi := _) rfl rfl hns (by kernel_rfl) (by kernel_rfl) hQ (by kernel_rfl) h0 ?_
              refine hx_off (i := 9) (oi := _) rfl rfl hns (by kernel_rfl) (by kernel_rfl) hQ (by kernel_rfl) h0 ?_
              refine hx_off (i := 10) (oi := _) rfl rfl hns (by kernel_rfl) (by kernel_rfl) hQ (by kernel_rfl) h0 ?_
              refine hx_take (i := 11) (oi := _) (v := .bool false) rfl rfl hns (by kernel_rfl) (by kernel_rfl) hQ (by kernel_rfl) (fun _ _ => by kernel_rfl) h0 ?_
              refine wpAnyH_done (by kernel_rfl) ?_ _
              clear hns hQ
              simp only [List.set_cons_zero, List.set_cons_succ]
              have hRk : R = k := by have h := hres.out; rw [List.drop_eq_nil_of_le (by omega)] at h; exact h
              have hS2 : Since W1 wr.drew := hs1r.drew
              replace c0 := (show wr.drew.heap[w.heap.size]? = _ from c0)
              replace c1 := (show wr.drew.heap[w.heap.size + 1]? = _ from c1)
              obtain rfl := hRk
              clear kc hs1r h0 hres HR hb0 hb1
              generalize wr.drew = W2 at *
              have hsub : IntKind.i64.wrap ((R : Int) - (i : Int)) = ((R - i : Nat) : Int) := by rw [IntWalk.i64_in] <;> omega
              have z0 : W2.cell? ⟨w.heap.size, 0, none⟩ = some (.int .i64 0) := cell_of_row _ _ _ _ _ _ c0
              have z1 : W2.cell? ⟨w.heap.size, 1, none⟩ = some (.string ⟨#[]⟩) := cell_of_row _ _ _ _ _ _ c0
              have z2 : W2.cell? ⟨w.heap.size, 2, none⟩ = some (.int .i64 0) := cell_of_row _ _ _ _ _ _ c0
              have y0 : W2.cell? ⟨w.heap.size + 1, 0, none⟩ = some (.int .i64 1) := cell_of_row _ _ _ _ _ _ c1
              have y1 : W2.cell? ⟨w.heap.size + 1, 1, none⟩ = some (.string ⟨#[]⟩) := cell_of_row _ _ _ _ _ _ c1
              have y2 : W2.cell? ⟨w.heap.size + 1, 2, none⟩ = some (.int .i64 (i : Int)) := cell_of_row _ _ _ _ _ _ c1
              have zf0 : W2.frozen? ⟨w.heap.size, 0, none⟩ = false := frozen_of_row _ _ _ _ _ c0
              have zf1 : W2.frozen? ⟨w.heap.size, 1, none⟩ = false := frozen_of_row _ _ _ _ _ c0
              have zf2 : W2.frozen? ⟨w.heap.size, 2, none⟩ = false := frozen_of_row _ _ _ _ _ c0
              have yf : W2.frozen? ⟨w.heap.size + 1, 1, none⟩ = false := frozen_of_row _ _ _ _ _ c1
              have zl : w.heap.size < W2.heap.size := (Array.getElem?_eq_some_iff.1 c0).1
              have yl : w.heap.size + 1 < W2.heap.size := (Array.getElem?_eq_some_iff.1 c1).1
              have hwS : w.heap.size ≤ w.heap.size + 1 := by omega
              have hm := HMid.out
              by_cases hq : 255 < R - i
              · have hq1 : (255 : Int) < ((R - i : Nat) : Int) := by omega
                have H0 := Lib.hid c0
                have HS2 := Lib.hid (hS.trans hS2)
                clear c0 c1 hS2 hq
                go_wp2_with fail
                refine bodyPost_ret (res_tok (g := w.heap.size) rfl rfl (heap_setCell_same _ _ _ _ _ _ (heap_setCell_same _ _ _ _ _ _ (heap_setCell_same _ _ _ _ _ _ H0.out))) rfl) rfl ?_
                exact (HP.out _ (((HS2.out.setCell (p := ⟨w.heap.size, 0, none⟩) (Nat.le_refl _) _).setCell (p := ⟨w.heap.size, 1, none⟩) (Nat.le_refl _) _).setCell (p := ⟨w.heap.size, 2, none⟩) (Nat.le_refl _) _)).1 (by omega)
              · have hq1 : ¬ (255 : Int) < ((R - i : Nat) : Int) := by omega
                have H0 := Lib.hid c0
                have HS2 := Lib.hid (hS.trans hS2)
                clear c0 c1 hS2
                go_wp2_with fail
                refine bodyPost_ret (res_tok (g := w.heap.size) rfl rfl (heap_setCell_same _ _ _ _ _ _ (heap_setCell_same _ _ _ _ _ _ (heap_setCell_same _ _ _ _ _ _ ((heap_setCell_other _ _ _ _ (by show w.heap.size ≠ w.heap.size + 1; omega)).trans H0.out)))) rfl) rfl ?_
                exact (HP.out _ ((((HS2.out.setCell (p := ⟨w.heap.size + 1, 1, none⟩) hwS _).setCell (p := ⟨w.heap.size, 0, none⟩) (Nat.le_refl _) _).setCell (p := ⟨w.heap.size, 1, none⟩) (Nat.le_refl _) _).setCell (p := ⟨w.heap.size, 2, none⟩) (Nat.le_refl _) _)).2 (by omega)
    · have ht := tok_great hi hs1 hg1
      obtain ⟨R, hR⟩ : ∃ R, Hid (R = i + runL (s.drop i) 2) := ⟨_, rfl⟩
      have hRl : R ≤ s.length := by
        have := runL_le (s.drop i) 2
        rw [List.length_drop] at this
        have := hR.out
        omega
      have hRi : i ≤ R := by have := hR.out; omega
      have hr9 : runL (s.drop i) 2 = R - i := by have := hR.out; omega
      rw [← hR.out, hr9] at ht
      have hP : ∀ W, Since w W → (255 < R - i → RtPost s i w (.returned (.tuple #[.agg #[.int .i64 0, .string ⟨#[]⟩, .int .i64 0], .int .i64 4])) W) ∧ (R - i ≤ 255 → RtPost s i w (.returned (.tuple #[.agg #[.int .i64 2, .string ⟨((s.take R).drop i).toArray⟩, .int .i64 (i : Int)], .int .i64 0])) W) := fun W h => by
        refine ⟨fun hq => ⟨h, ?_⟩, fun hq => ⟨h, ?_⟩⟩
        · rw [ht, if_neg (by omega)]
        · rw [ht, if_pos hq]
      have HP := Lib.hid hP
      have hm : ∀ W, (Instr.slice 9 (.string ⟨s.toArray⟩) (some (.int .i64 i)) (some (.int .i64 R)) none).run Try.prog W = .ok (.string ⟨((s.take R).drop i).toArray⟩) W := fun W => run_mid hRi hRl W
      have HR := Lib.hid hR.out
      have HMid := Lib.hid hm
      generalize (s.take R).drop i = T at *
      clear hP ht hr9 hR hm
      go_enter Try.func40, Try.ntmps40
      go_wp2_with (first | (go_at_call 45; refine (rin_sign _ _).mono ?_; rintro e w' ⟨rfl, rfl⟩) | (go_at_call 20; refine (rGreat_any _ _).mono ?_; rintro e w' ⟨rfl, rfl⟩))
      clear hS hs1 hg1
      have hS : Since w ((w.alloc (.cells #[.int .i64 0, .string ⟨#[]⟩, .int .i64 0] 25)).alloc (.cells #[.int .i64 2, .string ⟨#[]⟩, .int .i64 (i : Int)] 25)) := ((Since.refl w).alloc _).alloc _
      have hb0 : ((w.alloc (.cells #[.int .i64 0, .string ⟨#[]⟩, .int .i64 0] 25)).alloc (.cells #[.int .i64 2, .string ⟨#[]⟩, .int .i64 (i : Int)] 25)).heap[w.heap.size]? = some (.cells #[.int .i64 0, .string ⟨#[]⟩, .int .i64 0] 25 (0, 0)) := blk_alloc (heap_alloc_new _ _) _
      have hb1 : ((w.alloc (.cells #[.int .i64 0, .string ⟨#[]⟩, .int .i64 0] 25)).alloc (.cells #[.int .i64 2, .string ⟨#[]⟩, .int .i64 (i : Int)] 25)).heap[w.heap.size + 1]? = some (.cells #[.int .i64 2, .string ⟨#[]⟩, .int .i64 (i : Int)] 25 (0, 0)) := heap_alloc2_new _ _ _
      generalize (w.alloc (.cells #[.int .i64 0, .string ⟨#[]⟩, .int .i64 0] 25)).alloc (.cells #[.int .i64 2, .string ⟨#[]⟩, .int .i64 (i : Int)] 25) = W1 at *
      go_loopw [7] (fun m wr => ∃ k : Nat, i ≤ k ∧ k ≤ s.length ∧ m = .int .i64 (k : Int) ∧ Hid (R = k + runL (s.drop k) 2) ∧ Since W1 wr) (fun m _ => s.length - (intOf m).toNat)
      case atStart => exact ⟨i, by omega, by omega, rfl, HR.out, Since.refl _⟩
      case round =>
        obtain ⟨k, hik, hk, rfl, hres, hs1r⟩ := hrel
        have c0 : wr.heap[w.heap.size]? = some (.cells #[.int .i64 0, .string ⟨#[]⟩, .int .i64 0] 25 (0, 0)) := (Below.block hs1r _ (Array.getElem?_eq_some_iff.1 hb0).1).trans hb0
        have c1 : wr.heap[w.heap.size + 1]? = some (.cells #[.int .i64 2, .string ⟨#[]⟩, .int .i64 (i : Int)] 25 (0, 0)) := (Below.block hs1r _ (Array.getElem?_eq_some_iff.1 hb1).1).trans hb1
        have kc : wr.cell? ⟨w.heap.size + 1, 0, none⟩ = some (.int .i64 2) := cell_of_row _ _ _ _ _ _ c1
        go_wp2_with fail
        have h0 := (Since.refl wr).drew
        by_cases hlt : k < s.length
        · have hst := run_step (tok := 2) hlt
          have hd : decide ((k : Int) < (s.length : Int)) = true := decide_eq_true (by omega)
          have HM : Hid (∀ W, Calls Try.prog 46 #[.int .i64 2, .int .u8 (((ByteArray.mk s.toArray)[k]'hlt).toNat : Int)] W fun e w' => e = .returned (.bool (moreB ((2 : Int) == 2) (((ByteArray.mk s.toArray)[k]'hlt).toNat : Int))) ∧ W = w') := fun W => rmore_any _ _ W
          cases hmo : moreB ((2 : Int) == 2) (((ByteArray.mk s.toArray)[k]'hlt).toNat : Int)
          · rw [hmo] at HM hst
            have HST := Lib.hid hst
            clear hst hmo
            refine hx_begin (S := fun W => Since wr W) (by kernel_rfl) h0 (by kernel_rfl) (fun _ _ _ _ _ h => h) (fun hns hQ => ?_)
            refine hx_take (i := 0) (oi := _) (v := .int .i64 (k : Int)) rfl rfl hns (by kernel_rfl) (by kernel_rfl) hQ (by kernel_rfl) (fun _ _ => by kernel_rfl) h0 ?_
            refine hx_take (i := 1) (oi := _) (v := .string ⟨s.toArray⟩) rfl rfl hns (by kernel_rfl) (by kernel_rfl) hQ (by kernel_rfl) (fun _ _ => by kernel_rfl) h0 ?_
            refine hx_take (i := 2) (oi := _) (v := .int .i64 (s.length : Int)) rfl rfl hns (by kernel_rfl) (by kernel_rfl) hQ (by kernel_rfl) (fun _ _ => by kernel_rfl) h0 ?_
            refine hx_take (i := 3) (oi := _) (v := .bool true) rfl rfl hns (by kernel_rfl) (by kernel_rfl) hQ (by kernel_rfl) (fun W _ => lss_is rfl (by kernel_rfl) (by kernel_rfl) hd W) h0 ?_
            refine hx_take (i := 4) (oi := _) (v := .bool true) rfl rfl hns (by kernel_rfl) (by kernel_rfl) hQ (by kernel_rfl) (fun _ _ => by kernel_rfl) h0 ?_
            refine hx_take (i := 5) (oi := _) (v := .pointer (some ⟨w.heap.size + 1, 0, none⟩)) rfl rfl hns (by kernel_rfl) (by kernel_rfl) hQ (by kernel_rfl) (fun _ _ => by kernel_rfl) h0 ?_
            refine hx_take (i := 6) (oi := _) (v := .int .i64 2) rfl rfl hns (by kernel_rfl) (by kernel_rfl) hQ (by kernel_rfl) (fun W hW => ld_one rfl (by kernel_rfl) (by kernel_rfl) W (hW.cell kc)) h0 ?_
            refine hx_take (i := 7) (oi := _) (v := .string ⟨s.toArray⟩) rfl rfl hns (by kernel_rfl) (by kernel_rfl) hQ (by kernel_rfl) (fun _ _ => by kernel_rfl) h0 ?_
            refine hx_take (i := 8) (oi := _) (v := .int .i64 (k : Int)) rfl rfl hns (by kernel_rfl) (by kernel_rfl) hQ (by kernel_rfl) (fun _ _ => by kernel_rfl) h0 ?_
            refine hx_take (i := 9) (oi := _) (v := .int .u8 (((ByteArray.mk s.toArray)[k]'hlt).toNat : Int)) rfl rfl hns (by kernel_rfl) (by kernel_rfl) hQ (by kernel_rfl) (fun W _ => ix_str rfl (by kernel_rfl) (by kernel_rfl) hlt W) h0 ?_
            refine hx_call (i := 10) (oi := _) 46 #[.int .i64 2, .int .u8 (((ByteArray.mk s.toArray)[k]'hlt).toNat : Int)] rfl rfl (by kernel_rfl) (by kernel_rfl) (by kernel_rfl) (HM.out _) ?_
            rintro e w' ⟨rfl, rfl⟩
            refine ⟨_, rfl, h0, ?_⟩
            refine hx_take (i := 11) (oi := _) (v := .bool false) rfl rfl hns (by kernel_rfl) (by kernel_rfl) hQ (by kernel_rfl) (fun _ _ => by kernel_rfl) h0 ?_
            refine wpAnyH_done (by kernel_rfl) ?_ _
            clear hns hQ
            simp only [List.set_cons_zero, List.set_cons_succ]
            have hRk : R = k := by have h := hres.out; rw [HST.out, if_neg (by simp)] at h; omega
            have hS2 : Since W1 wr.drew := hs1r.drew
            replace c0 := (show wr.drew.heap[w.heap.size]? = _ from c0)
            replace c1 := (show wr.drew.heap[w.heap.size + 1]? = _ from c1)
            obtain rfl := hRk
            clear kc hs1r h0 hres HR hb0 hb1
            generalize wr.drew = W2 at *
            have hsub : IntKind.i64.wrap ((R : Int) - (i : Int)) = ((R - i : Nat) : Int) := by rw [IntWalk.i64_in] <;> omega
            have z0 : W2.cell? ⟨w.heap.size, 0, none⟩ = some (.int .i64 0) := cell_of_row _ _ _ _ _ _ c0
            have z1 : W2.cell? ⟨w.heap.size, 1, none⟩ = some (.string ⟨#[]⟩) := cell_of_row _ _ _ _ _ _ c0
            have z2 : W2.cell? ⟨w.heap.size, 2, none⟩ = some (.int .i64 0) := cell_of_row _ _ _ _ _ _ c0
            have y0 : W2.cell? ⟨w.heap.size + 1, 0, none⟩ = some (.int .i64 2) := cell_of_row _ _ _ _ _ _ c1
            have y1 : W2.cell? ⟨w.heap.size + 1, 1, none⟩ = some (.string ⟨#[]⟩) := cell_of_row _ _ _ _ _ _ c1
            have y2 : W2.cell? ⟨w.heap.size + 1, 2, none⟩ = some (.int .i64 (i : Int)) := cell_of_row _ _ _ _ _ _ c1
            have zf0 : W2.frozen? ⟨w.heap.size, 0, none⟩ = false := frozen_of_row _ _ _ _ _ c0
            have zf1 : W2.frozen? ⟨w.heap.size, 1, none⟩ = false := frozen_of_row _ _ _ _ _ c0
            have zf2 : W2.frozen? ⟨w.heap.size, 2, none⟩ = false := frozen_of_row _ _ _ _ _ c0
            have yf : W2.frozen? ⟨w.heap.size + 1, 1, none⟩ = false := frozen_of_row _ _ _ _ _ c1
            have zl : w.heap.size < W2.heap.size := (Array.getElem?_eq_some_iff.1 c0).1
            have yl : w.heap.size + 1 < W2.heap.size := (Array.getElem?_eq_some_iff.1 c1).1
            have hwS : w.heap.size ≤ w.heap.size + 1 := by omega
            have hm := HMid.out
            by_cases hq : 255 < R - i
            · have hq1 : (255 : Int) < ((R - i : Nat) : Int) := by omega
              have H0 := Lib.hid c0
              have HS2 := Lib.hid (hS.trans hS2)
              clear c0 c1 hS2 hq
              go_wp2_with fail
              refine bodyPost_ret (res_tok (g := w.heap.size) rfl rfl (heap_setCell_same _ _ _ _ _ _ (heap_setCell_same _ _ _ _ _ _ (heap_setCell_same _ _ _ _ _ _ H0.out))) rfl) rfl ?_
              exact (HP.out _ (((HS2.out.setCell (p := ⟨w.heap.size, 0, none⟩) (Nat.le_refl _) _).setCell (p := ⟨w.heap.size, 1, none⟩) (Nat.le_refl _) _).setCell (p := ⟨w.heap.size, 2, none⟩) (Nat.le_refl _) _)).1 (by omega)
            · have hq1 : ¬ (255 : Int) < ((R - i : Nat) : Int) := by omega
              have H0 := Lib.hid c0
              have HS2 := Lib.hid (hS.trans hS2)
              clear c0 c1 hS2
              go_wp2_with fail
              refine bodyPost_ret (res_tok (g := w.heap.size) rfl rfl (heap_setCell_same _ _ _ _ _ _ (heap_setCell_same _ _ _ _ _ _ (heap_setCell_same _ _ _ _ _ _ ((heap_setCell_other _ _ _ _ (by show w.heap.size ≠ w.heap.size + 1; omega)).trans H0.out)))) rfl) rfl ?_
              exact (HP.out _ ((((HS2.out.setCell (p := ⟨w.heap.size + 1, 1, none⟩) hwS _).setCell (p := ⟨w.heap.size, 0, none⟩) (Nat.le_refl _) _).setCell (p := ⟨w.heap.size, 1, none⟩) (Nat.le_refl _) _).setCell (p := ⟨w.heap.size, 2, none⟩) (Nat.le_refl _) _)).2 (by omega)
          · rw [hmo] at HM hst
            have HST := Lib.hid hst
            clear hst hmo
            refine hx_begin (S := fun W => Since wr W) (by kernel_rfl) h0 (by kernel_rfl) (fun _ _ _ _ _ h => h) (fun hns hQ => ?_)
            refine hx_take (i := 0) (oi := _) (v := .int .i64 (k : Int)) rfl rfl hns (by kernel_rfl) (by kernel_rfl) hQ (by kernel_rfl) (fun _ _ => by kernel_rfl) h0 ?_
            refine hx_take (i := 1) (oi := _) (v := .string ⟨s.toArray⟩) rfl rfl hns (by kernel_rfl) (by kernel_rfl) hQ (by kernel_rfl) (fun _ _ => by kernel_rfl) h0 ?_
            refine hx_take (i := 2) (oi := _) (v := .int .i64 (s.length : Int)) rfl rfl hns (by kernel_rfl) (by kernel_rfl) hQ (by kernel_rfl) (fun _ _ => by kernel_rfl) h0 ?_
            refine hx_take (i := 3) (oi := _) (v := .bool true) rfl rfl hns (by kernel_rfl) (by kernel_rfl) hQ (by kernel_rfl) (fun W _ => lss_is rfl (by kernel_rfl) (by kernel_rfl) hd W) h0 ?_
            refine hx_take (i := 4) (oi := _) (v := .bool true) rfl rfl hns (by kernel_rfl) (by kernel_rfl) hQ (by kernel_rfl) (fun _ _ => by kernel_rfl) h0 ?_
            refine hx_take (i := 5) (oi := _) (v := .pointer (some ⟨w.heap.size + 1, 0, none⟩)) rfl rfl hns (by kernel_rfl) (by kernel_rfl) hQ (by kernel_rfl) (fun _ _ => by kernel_rfl) h0 ?_
            refine hx_take (i := 6) (oi := _) (v := .int .i64 2) rfl rfl hns (by kernel_rfl) (by kernel_rfl) hQ (by kernel_rfl) (fun W hW => ld_one rfl (by kernel_rfl) (by kernel_rfl) W (hW.cell kc)) h0 ?_
            refine hx_take (i := 7) (oi := _) (v := .string ⟨s.toArray⟩) rfl rfl hns (by kernel_rfl) (by kernel_rfl) hQ (by kernel_rfl) (fun _ _ => by kernel_rfl) h0 ?_
            refine hx_take (i := 8) (oi := _) (v := .int .i64 (k : Int)) rfl rfl hns (by kernel_rfl) (by kernel_rfl) hQ (by kernel_rfl) (fun _ _ => by kernel_rfl) h0 ?_
            refine hx_take (i := 9) (oi := _) (v := .int .u8 (((ByteArray.mk s.toArray)[k]'hlt).toNat : Int)) rfl rfl hns (by kernel_rfl) (by kernel_rfl) hQ (by kernel_rfl) (fun W _ => ix_str rfl (by kernel_rfl) (by kernel_rfl) hlt W) h0 ?_
            refine hx_call (i := 10) (oi := _) 46 #[.int .i64 2, .int .u8 (((ByteArray.mk s.toArray)[k]'hlt).toNat : Int)] rfl rfl (by kernel_rfl) (by kernel_rfl) (by kernel_rfl) (HM.out _) ?_
            rintro e w' ⟨rfl, rfl⟩
            refine ⟨_, rfl, h0, ?_⟩
            refine hx_take (i := 11) (oi := _) (v := .bool true) rfl rfl hns (by kernel_rfl) (by kernel_rfl) hQ (by kernel_rfl) (fun _ _ => by kernel_rfl) h0 ?_
            refine wpAnyH_done (by kernel_rfl) ?_ _
            clear hns hQ
            simp only [List.set_cons_zero, List.set_cons_succ]
            have hres2 : Hid (R = k + 1 + runL (s.drop (k + 1)) 2) := by
              show _ = _
              rw [hres.out, HST.out, if_pos rfl]; omega
            go_wp2_with fail
            go_roundw
            case rel => exact ⟨k + 1, by omega, by omega, by go_num, hres2, hs1r.drew⟩
            case measure => simp [intOf]; omega
        · have hd : decide ((k : Int) < (s.length : Int)) = false := decide_eq_false (by omega)
          refine hx_begin (S := fun W => Since wr W) (by kernel_rfl) h0 (by kernel_rfl) (fun _ _ _ _ _ h => h) (fun hns hQ => ?_)
          refine hx_take (i := 0) (oi := _) (v := .int .i64 (k : Int)) rfl rfl hns (by kernel_rfl) (by kernel_rfl) hQ (by kernel_rfl) (fun _ _ => by kernel_rfl) h0 ?_
          refine hx_take (i := 1) (oi := _) (v := .string ⟨s.toArray⟩) rfl rfl hns (by kernel_rfl) (by kernel_rfl) hQ (by kernel_rfl) (fun _ _ => by kernel_rfl) h0 ?_
          refine hx_take (i := 2) (oi := _) (v := .int .i64 (s.length : Int)) rfl rfl hns (by kernel_rfl) (by kernel_rfl) hQ (by kernel_rfl) (fun _ _ => by kernel_rfl) h0 ?_
          refine hx_take (i := 3) (oi := _) (v := .bool false) rfl rfl hns (by kernel_rfl) (by kernel_rfl) hQ (by kernel_rfl) (fun W _ => lss_is rfl (by kernel_rfl) (by kernel_rfl) hd W) h0 ?_
          refine hx_take (i := 4) (oi := _) (v := .bool false) rfl rfl hns (by kernel_rfl) (by kernel_rfl) hQ (by kernel_rfl) (fun _ _ => by kernel_rfl) h0 ?_
          refine hx_off (i := 5) (oi := _) rfl rfl hns (by kernel_rfl) (by kernel_rfl) hQ (by kernel_rfl) h0 ?_
          refine hx_off (i := 6) (oi := _) rfl rfl hns (by kernel_rfl) (by kernel_rfl) hQ (by kernel_rfl) h0 ?_
          refine hx_off (i := 7) (oi := _) rfl rfl hns (by kernel_rfl) (by kernel_rfl) hQ (by kernel_rfl) h0 ?_
          refine hx_off (i := 8) (oi := _) rfl rfl hns (by kernel_rfl) (by kernel_rfl) hQ (by kernel_rfl) h0 ?_
          refine hx_off (i := 9) (oi := _) rfl rfl hns (by kernel_rfl) (by kernel_rfl) hQ (by kernel_rfl) h0 ?_
          refine hx_off (i := 10) (oi := _) rfl rfl hns (by kernel_rfl) (by kernel_rfl) hQ (by kernel_rfl) h0 ?_
          refine hx_take (i := 11) (oi := _) (v := .bool false) rfl rfl hns (by kernel_rfl) (by kernel_rfl) hQ (by kernel_rfl) (fun _ _ => by kernel_rfl) h0 ?_
          refine wpAnyH_done (by kernel_rfl) ?_ _
          clear hns hQ
          simp only [List.set_cons_zero, List.set_cons_succ]
          have hRk : R = k := by have h := hres.out; rw [List.drop_eq_nil_of_le (by omega)] at h; exact h
          have hS2 : Since W1 wr.drew := hs1r.drew
          replace c0 := (show wr.drew.heap[w.heap.size]? = _ from c0)
          replace c1 := (show wr.drew.heap[w.heap.size + 1]? = _ from c1)
          obtain rfl := hRk
          clear kc hs1r h0 hres HR hb0 hb1
          generalize wr.drew = W2 at *
          have hsub : IntKind.i64.wrap ((R : Int) - (i : Int)) = ((R - i : Nat) : Int) := by rw [IntWalk.i64_in] <;> omega
          have z0 : W2.cell? ⟨w.heap.size, 0, none⟩ = some (.int .i64 0) := cell_of_row _ _ _ _ _ _ c0
          have z1 : W2.cell? ⟨w.heap.size, 1, none⟩ = some (.string ⟨#[]⟩) := cell_of_row _ _ _ _ _ _ c0
          have z2 : W2.cell? ⟨w.heap.size, 2, none⟩ = some (.int .i64 0) := cell_of_row _ _ _ _ _ _ c0
          have y0 : W2.cell? ⟨w.heap.size + 1, 0, none⟩ = some (.int .i64 2) := cell_of_row _ _ _ _ _ _ c1
          have y1 : W2.cell? ⟨w.heap.size + 1, 1, none⟩ = some (.string ⟨#[]⟩) := cell_of_row _ _ _ _ _ _ c1
          have y2 : W2.cell? ⟨w.heap.size + 1, 2, none⟩ = some (.int .i64 (i : Int)) := cell_of_row _ _ _ _ _ _ c1
          have zf0 : W2.frozen? ⟨w.heap.size, 0, none⟩ = false := frozen_of_row _ _ _ _ _ c0
          have zf1 : W2.frozen? ⟨w.heap.size, 1, none⟩ = false := frozen_of_row _ _ _ _ _ c0
          have zf2 : W2.frozen? ⟨w.heap.size, 2, none⟩ = false := frozen_of_row _ _ _ _ _ c0
          have yf : W2.frozen? ⟨w.heap.size + 1, 1, none⟩ = false := frozen_of_row _ _ _ _ _ c1
          have zl : w.heap.size < W2.heap.size := (Array.getElem?_eq_some_iff.1 c0).1
          have yl : w.heap.size + 1 < W2.heap.size := (Array.getElem?_eq_some_iff.1 c1).1
          have hwS : w.heap.size ≤ w.heap.size + 1 := by omega
          have hm := HMid.out
          by_cases hq : 255 < R - i
          · have hq1 : (255 : Int) < ((R - i : Nat) : Int) := by omega
            have H0 := Lib.hid c0
            have HS2 := Lib.hid (hS.trans hS2)
            clear c0 c1 hS2 hq
            go_wp2_with fail
            refine bodyPost_ret (res_tok (g := w.heap.size) rfl rfl (heap_setCell_same _ _ _ _ _ _ (heap_setCell_same _ _ _ _ _ _ (heap_setCell_same _ _ _ _ _ _ H0.out))) rfl) rfl ?_
            exact (HP.out _ (((HS2.out.setCell (p := ⟨w.heap.size, 0, none⟩) (Nat.le_refl _) _).setCell (p := ⟨w.heap.size, 1, none⟩) (Nat.le_refl _) _).setCell (p := ⟨w.heap.size, 2, none⟩) (Nat.le_refl _) _)).1 (by omega)
          · have hq1 : ¬ (255 : Int) < ((R - i : Nat) : Int) := by omega
            have H0 := Lib.hid c0
            have HS2 := Lib.hid (hS.trans hS2)
            clear c0 c1 hS2
            go_wp2_with fail
            refine bodyPost_ret (res_tok (g := w.heap.size) rfl rfl (heap_setCell_same _ _ _ _ _ _ (heap_setCell_same _ _ _ _ _ _ (heap_setCell_same _ _ _ _ _ _ ((heap_setCell_other _ _ _ _ (by show w.heap.size ≠ w.heap.size + 1; omega)).trans H0.out)))) rfl) rfl ?_
            exact (HP.out _ ((((HS2.out.setCell (p := ⟨w.heap.size + 1, 1, none⟩) hwS _).setCell (p := ⟨w.heap.size, 0, none⟩) (Nat.le_refl _) _).setCell (p := ⟨w.heap.size, 1, none⟩) (Nat.le_refl _) _).setCell (p := ⟨w.heap.size, 2, none⟩) (Nat.le_refl _) _)).2 (by omega)
  · have ht := tok_sign hi hs1
    have hm : ∀ W, (Instr.slice 9 (.string ⟨s.toArray⟩) (some (.int .i64 i)) (some (.int .i64 ((i : Int) + 1))) none).run Try.prog W = .ok (.string ⟨((s.take (i + 1)).drop i).toArray⟩) W := fun W => run_mid (S := s) (i := i) (j := i + 1) (by omega) (by omega) W
    have hP : ∀ W, Since w W → RtPost s i w (.returned (.tuple #[.agg #[.int .i64 3, .string ⟨((s.take (i + 1)).drop i).toArray⟩, .int .i64 (i : Int)], .int .i64 0])) W := fun W h => by
      refine ⟨h, ?_⟩
      rw [ht]
    generalize (s.take (i + 1)).drop i = T at *
    have HP := Lib.hid hP
    clear hP ht
    go_enter Try.func40, Try.ntmps40
    go_wp2_with (go_at_call 45; refine (rin_sign _ _).mono ?_; rintro e w' ⟨rfl, rfl⟩)
    refine bodyPost_ret (res_tok (g := w.heap.size) rfl rfl (blk_alloc (heap_alloc_new _ _) _) rfl) rfl ?_
    exact HP.out _ (((Since.refl w).alloc _).alloc _)
end Go.Proofs.Ytfbkddpapjpgbaa
