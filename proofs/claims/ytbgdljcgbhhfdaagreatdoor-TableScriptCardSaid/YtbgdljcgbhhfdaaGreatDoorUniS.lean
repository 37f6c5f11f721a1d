/- The reference: a binding put among others (put), binding a variable where it may be (Bind). -/
import Derived.Test.YtbgdljcgbhhfdaaGreatDoorUniAH
namespace Go.Proofs.YtbgdljcgbhhfdaaGreatDoor
open Go.RowKit

/-- A row of bindings comes back. -/
def RowPost (w : World) (L : List Bnd) (e : Ending) (w' : World) : Prop := ∃ v', e = .returned v' ∧ RowS w' v' L ∧ Since w w'
theorem push_len {P : List Bnd} {b : Bnd} : (P ++ [b]).length = P.length + 1 := by simp
theorem own_push {W : World} {base : Nat} {e : TypeId} {v : Value} {P : List Bnd} {b : Bnd} (h : W.ownsRow base e 3 v (P.length + 1) (P.flatMap bndC ++ bndC b)) : W.ownsRow base e 3 v (P ++ [b]).length ((P ++ [b]).flatMap bndC) := by
  rw [push_len, flat_push]; exact h
theorem ins_end (b : Bnd) {L : List Bnd} {k : Nat} (h : ¬ k < L.length) (P : List Bnd) : P ++ insB b (L.drop k) = P ++ [b] := by
  rw [List.drop_eq_nil_of_le (by omega)]; rfl
theorem ins_in {b : Bnd} {L : List Bnd} {k : Nat} (hk : k < L.length) (h : b.1 < L[k].1) (P : List Bnd) : P ++ insB b (L.drop k) = ((P ++ [b]) ++ [L[k]]) ++ L.drop (k + 1) := by
  rw [List.drop_eq_getElem_cons hk, insB, if_pos h]; simp
theorem ins_on {b : Bnd} {L : List Bnd} {k : Nat} (hk : k < L.length) (h : ¬ b.1 < L[k].1) (P : List Bnd) : P ++ insB b (L.drop k) = (P ++ [L[k]]) ++ insB b (L.drop (k + 1)) := by
  rw [List.drop_eq_getElem_cons hk, insB, if_neg h]; simp
theorem drop_on {L : List Bnd} {k : Nat} (hk : k < L.length) (P : List Bnd) : P ++ L.drop k = (P ++ [L[k]]) ++ L.drop (k + 1) := by
  rw [List.drop_eq_getElem_cons hk]; simp
set_option maxHeartbeats 4000000 in
set_option maxRecDepth 100000 in
theorem rput_any (v : Value) (L : List Bnd) (xs : List UInt8) (xv : Bool) (xt : List UInt8) (w : World) (hv : RowOf 3 bndC w v L) (hn : ∀ b ∈ L, b.1 ≠ xs) (hm : L.length ≤ 1000000) :
    Calls Tryz.prog 101 #[v, .agg #[.string ⟨xs.toArray⟩, .bool xv, .string ⟨xt.toArray⟩]] w (RowPost w (insB (xs, (xv, xt)) L)) := by
  obtain ⟨a, c, rfl⟩ := hv.form
  have HV := Lib.hid hv
  have HN := Lib.hid hn
  clear hn
  obtain ⟨i0, hi0, hz0, hz1, hz2⟩ := info_parts bndInfo
  have HI := Lib.hid (And.intro hi0 (And.intro hz0 (And.intro hz1 hz2)))
  have K0 : Hid (Cel (w.alloc (.cells #[.string ⟨xs.toArray⟩, .bool xv, .string ⟨xt.toArray⟩] 102)) w.heap.size #[.string ⟨xs.toArray⟩, .bool xv, .string ⟨xt.toArray⟩] 102) := heap_alloc_new w _
  have hS1 : Since w (w.alloc (.cells #[.string ⟨xs.toArray⟩, .bool xv, .string ⟨xt.toArray⟩] 102)) := (Since.refl _).alloc _
  obtain ⟨R, hR⟩ : ∃ R, Hid (R = insB (xs, (xv, xt)) L) := ⟨_, rfl⟩
  rw [← hR.out]
  have hR0 : Hid (R = [] ++ insB (xs, (xv, xt)) (L.drop 0)) := hR
  clear hv hi0 hz0 hz1 hz2 hR
  go_enter Tryz.func101, Tryz.ntmps101
  go_wp2_with fail
  go_loopw [5, 6, 7] (fun s f i wr => ∃ (k : Nat) (inn : Bool) (P : List Bnd), k ≤ L.length ∧ i = .int .i64 (k : Int) ∧ f = .bool inn ∧ Since w wr ∧ Hid (Cel wr w.heap.size #[.string ⟨xs.toArray⟩, .bool xv, .string ⟨xt.toArray⟩] 102) ∧ wr.ownsRow (w.heap.size + 1) 102 3 s P.length (P.flatMap bndC) ∧ P.length ≤ k + (if inn then 1 else 0) ∧ Hid (R = P ++ (if inn then L.drop k else insB (xs, (xv, xt)) (L.drop k)))) (fun _ _ i _ => L.length - (intOf i).toNat)
  case atStart => exact ⟨0, false, [], by omega, rfl, rfl, hS1, K0.out, World.ownsRow_nil _ _ _ _, by simp, hR0.out⟩
  case round =>
    clear hR0 K0 hS1
    obtain ⟨k, inn, P, hk, rfl, rfl, hS, K, how, hPl, hres⟩ := hrel
    have hz : w.heap.size + 1 ≤ wr.heap.size := K.out.lt
    obtain ⟨k0, k1, k2⟩ := K.out.three
    by_cases hlt : k < L.length
    · obtain ⟨b, o, he, _, hc, hat⟩ := bnd_get (HV.out.next hS) (by omega)
      cases he
      obtain ⟨d0, d1, d2⟩ := hat k hlt
      have hg2 : (k : Int) < (L.length : Int) := by omega
      have hg0 : (0 : Int) ≤ (k : Int) := by omega
      have HD : Hid (∀ W, Since w W → BndAt W b (o + k * 3) L[k]) := by
        intro W hW
        obtain ⟨b', o', he', _, _, hat'⟩ := bnd_get (HV.out.next hW) (by omega)
        cases he'
        exact hat' k hlt
      clear hat
      cases inn
      · have hres' := hres.out
        simp only [Bool.false_eq_true, if_false] at hres' hPl
        by_cases hl : xs < L[k].1
        · have hnx : Hid (R = ((P ++ [(xs, (xv, xt))]) ++ [L[k]]) ++ (if true then L.drop (k + 1) else insB (xs, (xv, xt)) (L.drop (k + 1)))) := by
            show _ = _
            rw [hres', ins_in hlt hl]; rfl
          have hb1 : Op.bytesLess L[k].1 xs = false := (less_lt _ _).trans (decide_eq_false fun h => List.lt_asymm h hl)
          have hb2 : (L[k].1 == xs) = false := by rw [beq_eq_false_iff_ne]; exact HN.out _ (List.getElem_mem hlt)
          clear hres hres' hl
          generalize L[k] = x at *
          obtain ⟨ys, yv, yt⟩ := x
          simp only at d0 d1 d2 hb1 hb2
          go_wp2_with fail
          go_quiet (fail)
          have hSd := hS.drewN nq
          have Kd : Cel (wr.drewN nq) w.heap.size #[.string ⟨xs.toArray⟩, .bool xv, .string ⟨xt.toArray⟩] 102 := K.out
          have howd : (wr.drewN nq).ownsRow (w.heap.size + 1) 102 3 u5 P.length (P.flatMap bndC) := how
          have hpl7 : (P ++ [(xs, (xv, xt))]).length = P.length + 1 := push_len
          go_wp2_with (first
            | (at_builtin; refine wpList_append_own _ rfl (.tmp 26) (.tmp 28) 72 rfl (w.heap.size + 1) 102 i0 (.agg #[.string ⟨#[]⟩, .bool false, .string ⟨#[]⟩]) 3 40 Tryz.underlying72 HI.out.1 HI.out.2.1 HI.out.2.2.1 HI.out.2.2.2 rfl (by decide) _ (P).length ((P).flatMap bndC) rfl (howd.alloc _) ⟨(wr.drewN nq).heap.size, 0, none⟩ 1 1 (bndC (xs, (xv, xt))) rfl rfl (cells_lit _ _ _ _ rfl) (bnd_one _) (by unfold maxLen; omega) (by omega) (by simp; omega) ?_; intro v7 w7 hown7 hg7 _; have hne7 := fun q hq => own_ge howd q hq; have hS7 : Since w w7 := Below.grown (hSd.alloc _) hg7 (hSd.alloc _).size (fun q hq => by have := hne7 q hq; omega); have K7 := (Kd.next ((Since.refl _).alloc _)).grown hg7 (by intro e; have := hne7 _ e.symm; omega); have hz7 : w.heap.size + 1 ≤ w7.heap.size := K7.lt; replace hown7 := own_push hown7; have k70 := K7.three.1; have k71 := K7.three.2.1; have k72 := K7.three.2.2; obtain ⟨d0, d1, d2⟩ := HD.out w7 hS7)
            | (at_builtin; refine wpList_append_own _ rfl (.tmp 30) (.tmp 35) 72 rfl (w.heap.size + 1) 102 i0 (.agg #[.string ⟨#[]⟩, .bool false, .string ⟨#[]⟩]) 3 40 Tryz.underlying72 HI.out.1 HI.out.2.1 HI.out.2.2.1 HI.out.2.2.2 rfl (by decide) _ (P ++ [(xs, (xv, xt))]).length ((P ++ [(xs, (xv, xt))]).flatMap bndC) rfl (hown7.alloc _) ⟨w7.heap.size, 0, none⟩ 1 1 (bndC (ys, (yv, yt))) rfl rfl (cells_lit _ _ _ _ rfl) (bnd_one _) (by unfold maxLen; omega) (by omega) (by simp; omega) ?_; intro v8 w8 hown8 hg8 _; have hne8 := fun q hq => own_ge hown7 q hq; have hS8 : Since w w8 := Below.grown (hS7.alloc _) hg8 (hS7.alloc _).size (fun q hq => by have := hne8 q hq; omega); have K8 := (K7.next ((Since.refl _).alloc _)).grown hg8 (by intro e; have := hne8 _ e.symm; omega); have hz8 : w.heap.size + 1 ≤ w8.heap.size := K8.lt; replace hown8 := own_push hown8; have k80 := K8.three.1; have k81 := K8.three.2.1; have k82 := K8.three.2.2))
          go_roundw
          case rel => exact ⟨k + 1, true, (P ++ [(xs, (xv, xt))]) ++ [(ys, (yv, yt))], by omega, by go_num, rfl, hS8, K8, hown8, by simp; omega, hnx.out⟩
          case measure => simp [intOf]; omega
        · have hnx : Hid (R = (P ++ [L[k]]) ++ (if false then L.drop (k + 1) else insB (xs, (xv, xt)) (L.drop (k + 1)))) := by
            show _ = _
            rw [hres', ins_on hlt hl]; rfl
          have hb1 : Op.bytesLess L[k].1 xs = true := (less_lt _ _).trans (decide_eq_true (lt_tri hl (fun e => HN.out _ (List.getElem_mem hlt) e.symm)))
          clear hres hres' hl
          generalize L[k] = x at *
          obtain ⟨ys, yv, yt⟩ := x
          simp only at d0 d1 d2 hb1
          go_wp2_with fail
          go_quiet (fail)
          have hSd := hS.drewN nq
          have Kd : Cel (wr.drewN nq) w.heap.size #[.string ⟨xs.toArray⟩, .bool xv, .string ⟨xt.toArray⟩] 102 := K.out
          have howd : (wr.drewN nq).ownsRow (w.heap.size + 1) 102 3 u5 P.length (P.flatMap bndC) := how
          go_wp2_with (at_builtin; refine wpList_append_own _ rfl (.tmp 30) (.tmp 35) 72 rfl (w.heap.size + 1) 102 i0 (.agg #[.string ⟨#[]⟩, .bool false, .string ⟨#[]⟩]) 3 40 Tryz.underlying72 HI.out.1 HI.out.2.1 HI.out.2.2.1 HI.out.2.2.2 rfl (by decide) _ (P).length ((P).flatMap bndC) rfl (howd.alloc _) ⟨(wr.drewN nq).heap.size, 0, none⟩ 1 1 (bndC (ys, (yv, yt))) rfl rfl (cells_lit _ _ _ _ rfl) (bnd_one _) (by unfold maxLen; omega) (by omega) (by simp; omega) ?_; intro v8 w8 hown8 hg8 _; have hne8 := fun q hq => own_ge howd q hq; have hS8 : Since w w8 := Below.grown (hSd.alloc _) hg8 (hSd.alloc _).size (fun q hq => by have := hne8 q hq; omega); have K8 := (Kd.next ((Since.refl _).alloc _)).grown hg8 (by intro e; have := hne8 _ e.symm; omega); have hz8 : w.heap.size + 1 ≤ w8.heap.size := K8.lt; replace hown8 := own_push hown8; have k80 := K8.three.1; have k81 := K8.three.2.1; have k82 := K8.three.2.2)
          go_roundw
          case rel => exact ⟨k + 1, false, P ++ [(ys, (yv, yt))], by omega, by go_num, rfl, hS8, K8, hown8, by simp; omega, hnx.out⟩
          case measure => simp [intOf]; omega
      · have hres' := hres.out
        simp only [if_true] at hres' hPl
        have hnx : Hid (R = (P ++ [L[k]]) ++ (if true then L.drop (k + 1) else insB (xs, (xv, xt)) (L.drop (k + 1)))) := by
          show _ = _
          rw [hres', drop_on hlt]; rfl
        clear hres hres'
        generalize L[k] = x at *
        obtain ⟨ys, yv, yt⟩ := x
        simp only at d0 d1 d2
        go_wp2_with fail
        go_quiet (fail)
        have hSd := hS.drewN nq
        have Kd : Cel (wr.drewN nq) w.heap.size #[.string ⟨xs.toArray⟩, .bool xv, .string ⟨xt.toArray⟩] 102 := K.out
        have howd : (wr.drewN nq).ownsRow (w.heap.size + 1) 102 3 u5 P.length (P.flatMap bndC) := how
        go_wp2_with (at_builtin; refine wpList_append_own _ rfl (.tmp 30) (.tmp 35) 72 rfl (w.heap.size + 1) 102 i0 (.agg #[.string ⟨#[]⟩, .bool false, .string ⟨#[]⟩]) 3 40 Tryz.underlying72 HI.out.1 HI.out.2.1 HI.out.2.2.1 HI.out.2.2.2 rfl (by decide) _ (P).length ((P).flatMap bndC) rfl (howd.alloc _) ⟨(wr.drewN nq).heap.size, 0, none⟩ 1 1 (bndC (ys, (yv, yt))) rfl rfl (cells_lit _ _ _ _ rfl) (bnd_one _) (by unfold maxLen; omega) (by omega) (by simp; omega) ?_; intro v8 w8 hown8 hg8 _; have hne8 := fun q hq => own_ge howd q hq; have hS8 : Since w w8 := Below.grown (hSd.alloc _) hg8 (hSd.alloc _).size (fun q hq => by have := hne8 q hq; omega); have K8 := (Kd.next ((Since.refl _).alloc _)).grown hg8 (by intro e; have := hne8 _ e.symm; omega); have hz8 : w.heap.size + 1 ≤ w8.heap.size := K8.lt; replace hown8 := own_push hown8; have k80 := K8.three.1; have k81 := K8.three.2.1; have k82 := K8.three.2.2)
        go_roundw
        case rel => exact ⟨k + 1, true, P ++ [(ys, (yv, yt))], by omega, by go_num, rfl, hS8, K8, hown8, by simp; omega, hnx.out⟩
        case measure => simp [intOf]; omega
    · have hlt2 : ¬ (k : Int) < (L.length : Int) := by omega
      cases inn
      · have hfin : Hid (R = P ++ [(xs, (xv, xt))]) := by
          show _ = _
          rw [hres.out]
          simp only [Bool.false_eq_true, if_false]
          rw [ins_end _ hlt]
        have Kq := K.out
        simp only [Bool.false_eq_true, if_false] at hPl
        clear hres
        go_wp2_with (at_builtin; refine wpList_append_own _ rfl (.tmp 39) (.tmp 41) 72 rfl (w.heap.size + 1) 102 i0 (.agg #[.string ⟨#[]⟩, .bool false, .string ⟨#[]⟩]) 3 40 Tryz.underlying72 HI.out.1 HI.out.2.1 HI.out.2.2.1 HI.out.2.2.2 rfl (by decide) _ (P).length ((P).flatMap bndC) rfl (how.alloc _) ⟨wr.heap.size, 0, none⟩ 1 1 (bndC (xs, (xv, xt))) rfl rfl (cells_lit _ _ _ _ rfl) (bnd_one _) (by unfold maxLen; omega) (by omega) (by simp; omega) ?_; intro v8 w8 hown8 hg8 _; have hne8 := fun q hq => own_ge how q hq; have hS8 : Since w w8 := Below.grown (hS.alloc _) hg8 (hS.alloc _).size (fun q hq => by have := hne8 q hq; omega); have K8 := (Kq.next ((Since.refl _).alloc _)).grown hg8 (by intro e; have := hne8 _ e.symm; omega); have hz8 : w.heap.size + 1 ≤ w8.heap.size := K8.lt; replace hown8 := own_push hown8; have k80 := K8.three.1; have k81 := K8.three.2.1; have k82 := K8.three.2.2)
        go_ret
        exact ⟨_, rfl, by rw [hfin.out]; exact rowS_of_own hown8 rfl, hS8⟩
      · have hfin : Hid (R = P) := by
          show _ = _
          rw [hres.out]
          simp only [if_true]
          rw [List.drop_eq_nil_of_le (by omega), List.append_nil]
        clear hres
        go_wp2_with fail
        go_ret
        exact ⟨_, rfl, by rw [hfin.out]; exact rowS_of_own how rfl, hS⟩
end Go.Proofs.YtbgdljcgbhhfdaaGreatDoor
