/- The reference: a binding put among others (put), binding a variable where it may be (Bind). The reference: binding a variable where it may be (Bind). The reference: alike, Extend from any bindings of constants, Match, at valid atoms of which the second is ground. -/
import Derived.Test.YtdlnmkdbjgbimaaGreatDoorUniG
import Derived.Test.YtdlnmkdbjgbimaaGreatDoorUniH
import Derived.Test.YtdlnmkdbjgbimaaGreatDoorMaA
import Derived.Test.YtdlnmkdbjgbimaaGreatDoorInv
import Derived.Deep.DeepCutAuto
namespace Go.Proofs.YtdlnmkdbjgbimaaGreatDoor
open Go.RowKit

/-- A row of bindings comes back. -/
def RowPost (w : World) (L : List Bnd) (e : Ending) (w' : World) : Prop := ∃ v', e = .returned v' ∧ RowS w' v' L ∧ Since w w'
theorem push_len {P : List Bnd} {b : Bnd} : (P ++ [b]).length = P.length + 1 := by simp
theorem own_push {W : World} {base : Nat} {e : TypeId} {v : Value} {P : List Bnd} {b : Bnd} (h : W.ownsRow base e 3 v (P.length + 1) (P.flatMap bndC ++ bndC b)) : W.ownsRow base e 3 v (P ++ [b]).length ((P ++ [b]).flatMap bndC) := by
  rw [push_len, flat_push]; exact h
theorem ins_end (b : Bnd) {L : List Bnd} {k : Nat} (h : ¬ k < L.length) (P : List Bnd) : P ++ insB b (L.drop k) = P ++ [b] := by
  rw [List.drop_eq_nil_of_le (by omega)]; rfl
theorem ins_in {b : Bnd} {L : List Bnd} {k : Nat} (hk : k < L.length) (h : b.1 < L[k].1) (P : List Bnd) : P ++ insB b (L.drop k) = ((P ++ [b]) ++ [L[k]]) ++ L.drop (k + 1) := by
  rw [List.drop_eq_getElem_cons hk, insB, if_pos h]; simp
theorem ins_on {b : Bnd} {L : List Bnd} {k : Nat} (hk : k < L.length) (h : ¬ b.1 < L[k].1) (P : List Bnd) : P ++ insB b (L.drop k) = (P ++ [L[k]]) ++ insB b (L.drop (k + 1)) := by
  rw [List.drop_eq_getElem_cons hk, insB, if_neg h]; simp
theorem drop_on {L : List Bnd} {k : Nat} (hk : k < L.length) (P : List Bnd) : P ++ L.drop k = (P ++ [L[k]]) ++ L.drop (k + 1) := by
  rw [List.drop_eq_getElem_cons hk]; simp
set_option maxHeartbeats 4000000 in
set_option maxRecDepth 100000 in
theorem rput_any (v : Value) (L : List Bnd) (xs : List UInt8) (xv : Bool) (xt : List UInt8) (w : World) (hv : RowOf 3 bndC w v L) (hn : ∀ b ∈ L, b.1 ≠ xs) (hm : L.length ≤ 1000000) :
    Calls Tryz.prog 106 #[v, .agg #[.string ⟨xs.toArray⟩, .bool xv, .string ⟨xt.toArray⟩]] w (RowPost w (insB (xs, (xv, xt)) L)) := by
  obtain ⟨a, c, rfl⟩ := hv.form
  have HV := Lib.hid hv
  have HN := Lib.hid hn
  clear hn
  obtain ⟨i0, hi0, hz0, hz1, hz2⟩ := info_parts bndInfo
  have HI := Lib.hid (And.intro hi0 (And.intro hz0 (And.intro hz1 hz2)))
  have K0 : Hid (Cel (w.alloc (.cells #[.string ⟨xs.toArray⟩, .bool xv, .string ⟨xt.toArray⟩] 101)) w.heap.size #[.string ⟨xs.toArray⟩, .bool xv, .string ⟨xt.toArray⟩] 101) := heap_alloc_new w _
  have hS1 : Since w (w.alloc (.cells #[.string ⟨xs.toArray⟩, .bool xv, .string ⟨xt.toArray⟩] 101)) := (Since.refl _).alloc _
  obtain ⟨R, hR⟩ : ∃ R, Hid (R = insB (xs, (xv, xt)) L) := ⟨_, rfl⟩
  rw [← hR.out]
  have hR0 : Hid (R = [] ++ insB (xs, (xv, xt)) (L.drop 0)) := hR
  clear hv hi0 hz0 hz1 hz2 hR
  go_enter Tryz.func106, Tryz.ntmps106
  go_wp2_with fail
  go_loopw [5, 6, 7] (fun s f i wr => ∃ (k : Nat) (inn : Bool) (P : List Bnd), k ≤ L.length ∧ i = .int .i64 (k : Int) ∧ f = .bool inn ∧ Since w wr ∧ Hid (Cel wr w.heap.size #[.string ⟨xs.toArray⟩, .bool xv, .string ⟨xt.toArray⟩] 101) ∧ wr.ownsRow (w.heap.size + 1) 101 3 s P.length (P.flatMap bndC) ∧ P.length ≤ k + (if inn then 1 else 0) ∧ Hid (R = P ++ (if inn then L.drop k else insB (xs, (xv, xt)) (L.drop k)))) (fun _ _ i _ => L.length - (intOf i).toNat)
  case atStart => exact ⟨0, false, [], by omega, rfl, rfl, hS1, K0.out, World.ownsRow_nil _ _ _ _, by simp, hR0.out⟩
  case round =>
    clear hR0 K0 hS1
    obtain ⟨k, inn, P, hk, rfl, rfl, hS, K, how, hPl, hres⟩ := hrel
    have hz : w.heap.size + 1 ≤ wr.heap.size := K.out.lt
    obtain ⟨k0, k1, k2⟩ := K.out.three
    by_cases hlt : k < L.length
    · obtain ⟨b, o, he, _, hc, hat⟩ := bnd_get (HV.out.next hS) (by omega)
      cases he
      obtain ⟨d0, d1, d2⟩ := hat k hlt
      have hg2 : (k : Int) < (L.length : Int) := by omega
      have hg0 : (0 : Int) ≤ (k : Int) := by omega
      have HD : Hid (∀ W, Since w W → BndAt W b (o + k * 3) L[k]) := by
        intro W hW
        obtain ⟨b', o', he', _, _, hat'⟩ := bnd_get (HV.out.next hW) (by omega)
        cases he'
        exact hat' k hlt
      clear hat
      cases inn
      · have hres' := hres.out
        simp only [Bool.false_eq_true, if_false] at hres' hPl
        by_cases hl : xs < L[k].1
        · have hnx : Hid (R = ((P ++ [(xs, (xv, xt))]) ++ [L[k]]) ++ (if true then L.drop (k + 1) else insB (xs, (xv, xt)) (L.drop (k + 1)))) := by
            show _ = _
            rw [hres', ins_in hlt hl]; rfl
          have hb1 : Op.bytesLess L[k].1 xs = false := (less_lt _ _).trans (decide_eq_false fun h => List.lt_asymm h hl)
          have hb2 : (L[k].1 == xs) = false := by rw [beq_eq_false_iff_ne]; exact HN.out _ (List.getElem_mem hlt)
          clear hres hres' hl
          generalize L[k] = x at *
          obtain ⟨ys, yv, yt⟩ := x
          simp only at d0 d1 d2 hb1 hb2
          go_wp2_with fail
          go_quiet (fail)
          have hSd := hS.drewN nq
          have Kd : Cel (wr.drewN nq) w.heap.size #[.string ⟨xs.toArray⟩, .bool xv, .string ⟨xt.toArray⟩] 101 := K.out
          have howd : (wr.drewN nq).ownsRow (w.heap.size + 1) 101 3 u5 P.length (P.flatMap bndC) := how
          have hpl7 : (P ++ [(xs, (xv, xt))]).length = P.length + 1 := push_len
          go_wp2_with (first
            | (at_builtin; refine wpList_append_own _ rfl (.tmp 26) (.tmp 28) 86 rfl (w.heap.size + 1) 101 i0 (.agg #[.string ⟨#[]⟩, .bool false, .string ⟨#[]⟩]) 3 40 Tryz.underlying86 HI.out.1 HI.out.2.1 HI.out.2.2.1 HI.out.2.2.2 rfl (by decide) _ (P).length ((P).flatMap bndC) rfl (howd.alloc _) ⟨(wr.drewN nq).heap.size, 0, none⟩ 1 1 (bndC (xs, (xv, xt))) rfl rfl (cells_lit _ _ _ _ rfl) (bnd_one _) (by unfold maxLen; omega) (by omega) (by simp; omega) ?_; intro v7 w7 hown7 hg7 _; have hne7 := fun q hq => own_ge howd q hq; have hS7 : Since w w7 := Below.grown (hSd.alloc _) hg7 (hSd.alloc _).size (fun q hq => by have := hne7 q hq; omega); have K7 := (Kd.next ((Since.refl _).alloc _)).grown hg7 (by intro e; have := hne7 _ e.symm; omega); have hz7 : w.heap.size + 1 ≤ w7.heap.size := K7.lt; replace hown7 := own_push hown7; have k70 := K7.three.1; have k71 := K7.three.2.1; have k72 := K7.three.2.2; obtain ⟨d0, d1, d2⟩ := HD.out w7 hS7)
            | (at_builtin; refine wpList_append_own _ rfl (.tmp 30) (.tmp 35) 86 rfl (w.heap.size + 1) 101 i0 (.agg #[.string ⟨#[]⟩, .bool false, .string ⟨#[]⟩]) 3 40 Tryz.underlying86 HI.out.1 HI.out.2.1 HI.out.2.2.1 HI.out.2.2.2 rfl (by decide) _ (P ++ [(xs, (xv, xt))]).length ((P ++ [(xs, (xv, xt))]).flatMap bndC) rfl (hown7.alloc _) ⟨w7.heap.size, 0, none⟩ 1 1 (bndC (ys, (yv, yt))) rfl rfl (cells_lit _ _ _ _ rfl) (bnd_one _) (by unfold maxLen; omega) (by omega) (by simp; omega) ?_; intro v8 w8 hown8 hg8 _; have hne8 := fun q hq => own_ge hown7 q hq; have hS8 : Since w w8 := Below.grown (hS7.alloc _) hg8 (hS7.alloc _).size (fun q hq => by have := hne8 q hq; omega); have K8 := (K7.next ((Since.refl _).alloc _)).grown hg8 (by intro e; have := hne8 _ e.symm; omega); have hz8 : w.heap.size + 1 ≤ w8.heap.size := K8.lt; replace hown8 := own_push hown8; have k80 := K8.three.1; have k81 := K8.three.2.1; have k82 := K8.three.2.2))
          go_roundw
          case rel => exact ⟨k + 1, true, (P ++ [(xs, (xv, xt))]) ++ [(ys, (yv, yt))], by omega, by go_num, rfl, hS8, K8, hown8, by simp; omega, hnx.out⟩
          case measure => simp [intOf]; omega
        · have hnx : Hid (R = (P ++ [L[k]]) ++ (if false then L.drop (k + 1) else insB (xs, (xv, xt)) (L.drop (k + 1)))) := by
            show _ = _
            rw [hres', ins_on hlt hl]; rfl
          have hb1 : Op.bytesLess L[k].1 xs = true := (less_lt _ _).trans (decide_eq_true (lt_tri hl (fun e => HN.out _ (List.getElem_mem hlt) e.symm)))
          clear hres hres' hl
          generalize L[k] = x at *
          obtain ⟨ys, yv, yt⟩ := x
          simp only at d0 d1 d2 hb1
          go_wp2_with fail
          go_quiet (fail)
          have hSd := hS.drewN nq
          have Kd : Cel (wr.drewN nq) w.heap.size #[.string ⟨xs.toArray⟩, .bool xv, .string ⟨xt.toArray⟩] 101 := K.out
          have howd : (wr.drewN nq).ownsRow (w.heap.size + 1) 101 3 u5 P.length (P.flatMap bndC) := how
          go_wp2_with (at_builtin; refine wpList_append_own _ rfl (.tmp 30) (.tmp 35) 86 rfl (w.heap.size + 1) 101 i0 (.agg #[.string ⟨#[]⟩, .bool false, .string ⟨#[]⟩]) 3 40 Tryz.underlying86 HI.out.1 HI.out.2.1 HI.out.2.2.1 HI.out.2.2.2 rfl (by decide) _ (P).length ((P).flatMap bndC) rfl (howd.alloc _) ⟨(wr.drewN nq).heap.size, 0, none⟩ 1 1 (bndC (ys, (yv, yt))) rfl rfl (cells_lit _ _ _ _ rfl) (bnd_one _) (by unfold maxLen; omega) (by omega) (by simp; omega) ?_; intro v8 w8 hown8 hg8 _; have hne8 := fun q hq => own_ge howd q hq; have hS8 : Since w w8 := Below.grown (hSd.alloc _) hg8 (hSd.alloc _).size (fun q hq => by have := hne8 q hq; omega); have K8 := (Kd.next ((Since.refl _).alloc _)).grown hg8 (by intro e; have := hne8 _ e.symm; omega); have hz8 : w.heap.size + 1 ≤ w8.heap.size := K8.lt; replace hown8 := own_push hown8; have k80 := K8.three.1; have k81 := K8.three.2.1; have k82 := K8.three.2.2)
          go_roundw
          case rel => exact ⟨k + 1, false, P ++ [(ys, (yv, yt))], by omega, by go_num, rfl, hS8, K8, hown8, by simp; omega, hnx.out⟩
          case measure => simp [intOf]; omega
      · have hres' := hres.out
        simp only [if_true] at hres' hPl
        have hnx : Hid (R = (P ++ [L[k]]) ++ (if true then L.drop (k + 1) else insB (xs, (xv, xt)) (L.drop (k + 1)))) := by
          show _ = _
          rw [hres', drop_on hlt]; rfl
        clear hres hres'
        generalize L[k] = x at *
        obtain ⟨ys, yv, yt⟩ := x
        simp only at d0 d1 d2
        go_wp2_with fail
        go_quiet (fail)
        have hSd := hS.drewN nq
        have Kd : Cel (wr.drewN nq) w.heap.size #[.string ⟨xs.toArray⟩, .bool xv, .string ⟨xt.toArray⟩] 101 := K.out
        have howd : (wr.drewN nq).ownsRow (w.heap.size + 1) 101 3 u5 P.length (P.flatMap bndC) := how
        go_wp2_with (at_builtin; refine wpList_append_own _ rfl (.tmp 30) (.tmp 35) 86 rfl (w.heap.size + 1) 101 i0 (.agg #[.string ⟨#[]⟩, .bool false, .string ⟨#[]⟩]) 3 40 Tryz.underlying86 HI.out.1 HI.out.2.1 HI.out.2.2.1 HI.out.2.2.2 rfl (by decide) _ (P).length ((P).flatMap bndC) rfl (howd.alloc _) ⟨(wr.drewN nq).heap.size, 0, none⟩ 1 1 (bndC (ys, (yv, yt))) rfl rfl (cells_lit _ _ _ _ rfl) (bnd_one _) (by unfold maxLen; omega) (by omega) (by simp; omega) ?_; intro v8 w8 hown8 hg8 _; have hne8 := fun q hq => own_ge howd q hq; have hS8 : Since w w8 := Below.grown (hSd.alloc _) hg8 (hSd.alloc _).size (fun q hq => by have := hne8 q hq; omega); have K8 := (Kd.next ((Since.refl _).alloc _)).grown hg8 (by intro e; have := hne8 _ e.symm; omega); have hz8 : w.heap.size + 1 ≤ w8.heap.size := K8.lt; replace hown8 := own_push hown8; have k80 := K8.three.1; have k81 := K8.three.2.1; have k82 := K8.three.2.2)
        go_roundw
        case rel => exact ⟨k + 1, true, P ++ [(ys, (yv, yt))], by omega, by go_num, rfl, hS8, K8, hown8, by simp; omega, hnx.out⟩
        case measure => simp [intOf]; omega
    · have hlt2 : ¬ (k : Int) < (L.length : Int) := by omega
      cases inn
      · have hfin : Hid (R = P ++ [(xs, (xv, xt))]) := by
          show _ = _
          rw [hres.out]
          simp only [Bool.false_eq_true, if_false]
          rw [ins_end _ hlt]
        have Kq := K.out
        simp only [Bool.false_eq_true, if_false] at hPl
        clear hres
        go_wp2_with (at_builtin; refine wpList_append_own _ rfl (.tmp 39) (.tmp 41) 86 rfl (w.heap.size + 1) 101 i0 (.agg #[.string ⟨#[]⟩, .bool false, .string ⟨#[]⟩]) 3 40 Tryz.underlying86 HI.out.1 HI.out.2.1 HI.out.2.2.1 HI.out.2.2.2 rfl (by decide) _ (P).length ((P).flatMap bndC) rfl (how.alloc _) ⟨wr.heap.size, 0, none⟩ 1 1 (bndC (xs, (xv, xt))) rfl rfl (cells_lit _ _ _ _ rfl) (bnd_one _) (by unfold maxLen; omega) (by omega) (by simp; omega) ?_; intro v8 w8 hown8 hg8 _; have hne8 := fun q hq => own_ge how q hq; have hS8 : Since w w8 := Below.grown (hS.alloc _) hg8 (hS.alloc _).size (fun q hq => by have := hne8 q hq; omega); have K8 := (Kq.next ((Since.refl _).alloc _)).grown hg8 (by intro e; have := hne8 _ e.symm; omega); have hz8 : w.heap.size + 1 ≤ w8.heap.size := K8.lt; replace hown8 := own_push hown8; have k80 := K8.three.1; have k81 := K8.three.2.1; have k82 := K8.three.2.2)
        go_ret
        exact ⟨_, rfl, by rw [hfin.out]; exact rowS_of_own hown8 rfl, hS8⟩
      · have hfin : Hid (R = P) := by
          show _ = _
          rw [hres.out]
          simp only [if_true]
          rw [List.drop_eq_nil_of_le (by omega), List.append_nil]
        clear hres
        go_wp2_with fail
        go_ret
        exact ⟨_, rfl, by rw [hfin.out]; exact rowS_of_own how rfl, hS⟩
end Go.Proofs.YtdlnmkdbjgbimaaGreatDoor

namespace Go.Proofs.YtdlnmkdbjgbimaaGreatDoor
open Go.RowKit

theorem none_ne {L : List Bnd} {s : List UInt8} (h : getB L s = none) : ∀ b ∈ L, b.1 ≠ s := by
  induction L with
  | nil => intro b hb; cases hb
  | cons c L ih =>
    rw [getB] at h
    split at h
    · cases h
    · rename_i hc
      intro b hb
      rcases List.mem_cons.1 hb with rfl | hb
      · exact hc
      · exact ih h b hb
/-- A row of bindings and no error come back. -/
def RowOkPost (w : World) (L : List Bnd) (e : Ending) (w' : World) : Prop := ∃ v', e = .returned (.tuple #[v', .int .i64 0]) ∧ RowS w' v' L ∧ Since w w'
set_option maxHeartbeats 4000000 in
set_option maxRecDepth 100000 in
theorem rbind_const (v : Value) (L : List Bnd) (s tl : List UInt8) (w : World) (hv : RowOf 3 bndC w v L) (hi : InvB L) (hm : L.length ≤ 1000) (hs : s ≠ []) (ht : tl ≠ []) (hg : getB L s = none) :
    Calls Tryz.prog 97 #[v, .string ⟨s.toArray⟩, .agg #[.bool false, .string ⟨tl.toArray⟩]] w (RowOkPost w (bindP L s (false, tl))) := by
  obtain ⟨a, c, rfl⟩ := hv.form
  have HV := Lib.hid hv
  have HCK := Lib.hid (fun W (h : RowOf 3 bndC W (.slice a L.length c) L) => rcheckb_any (.slice a L.length c) L W h hi (by omega))
  have HG := Lib.hid (fun W (h : RowOf 3 bndC W (.slice a L.length c) L) => rget_any (.slice a L.length c) L s W h (by omega))
  have HT := Lib.hid (fun W (h : RowOf 3 bndC W (.slice a L.length c) L) => rtermb_any (.slice a L.length c) L false tl W h (by omega))
  rw [hg] at HG
  rw [show termS L (false, tl) = (false, tl) from rfl] at HT
  simp only [gtV] at HG
  simp only [tmV] at HT
  have HPU := Lib.hid (fun v6 W (h : RowOf 3 bndC W v6 (underB L [(s, (false, tl))])) => rput_any v6 (underB L [(s, (false, tl))]) s false tl W h (none_ne (by rw [getB_under, hg]; rfl)) (by rw [under_len]; omega))
  have HT1 := Lib.hid (fun yv yl W v1 (h : RowOf 3 bndC W v1 [(s, (false, tl))]) => rtermb_any v1 [(s, (false, tl))] yv yl W h (by simp))
  obtain ⟨i0, hi0, hz0, hz1, hz2⟩ := info_parts bndInfo
  have HI := Lib.hid (And.intro hi0 (And.intro hz0 (And.intro hz1 hz2)))
  have hs1 : s.isEmpty = false := by rw [List.isEmpty_eq_false_iff]; exact hs
  have ht1 : tl.isEmpty = false := by rw [List.isEmpty_eq_false_iff]; exact ht
  have hS1 : Since w (w.alloc (.cells #[.bool false, .string ⟨tl.toArray⟩] 26)) := (Since.refl _).alloc _
  have K1 : Hid (Cel (w.alloc (.cells #[.bool false, .string ⟨tl.toArray⟩] 26)) w.heap.size #[.bool false, .string ⟨tl.toArray⟩] 26) := heap_alloc_new w _
  obtain ⟨k0, k1⟩ := K1.out.two
  clear hv hi hs ht hg hi0 hz0 hz1 hz2
  go_enter Tryz.func97, Tryz.ntmps97
  go_wp2_with fail
  refine (HCK.out _ (HV.out.next hS1)).mono ?_
  rintro e w1 ⟨rfl, hb⟩
  have hS := hS1.trans hb
  replace K1 := Lib.hid (K1.out.next hb)
  clear hb hS1 k0 k1
  obtain ⟨k0, k1⟩ := K1.out.two
  go_wp2_with fail
  refine (HG.out _ (HV.out.next hS)).mono ?_
  rintro e w2 ⟨rfl, hb⟩
  have hb2 := hb.alloc (.cells #[.bool false, .string ⟨#[]⟩] 26)
  replace hS := hS.trans hb2
  replace K1 := Lib.hid (K1.out.next hb2)
  clear hb hb2 k0 k1
  obtain ⟨k0, k1⟩ := K1.out.two
  go_wp2_with fail
  refine (HT.out _ (HV.out.next hS)).mono ?_
  rintro e w3 ⟨rfl, hb⟩
  replace hS := hS.trans hb
  clear hb k0 k1 HCK HG HT K1
  go_wp2_with fail
  have MR := Lib.hid (bnd_single (w3.alloc (.cells #[.bool false, .string ⟨tl.toArray⟩] 26)) s false tl (w3.heap.size + 1) (by simp))
  have hS4 : Since w ((w3.alloc (.cells #[.bool false, .string ⟨tl.toArray⟩] 26)).alloc (.cells #[.string ⟨s.toArray⟩, .bool false, .string ⟨tl.toArray⟩] 101)) := (hS.alloc _).alloc _
  generalize ((w3.alloc (.cells #[.bool false, .string ⟨tl.toArray⟩] 26)).alloc (.cells #[.string ⟨s.toArray⟩, .bool false, .string ⟨tl.toArray⟩] 101)) = w4 at *
  go_loopw [11, 13] (fun r i wr => ∃ k : Nat, k ≤ L.length ∧ i = .int .i64 (k : Int) ∧ Since w4 wr ∧ wr.ownsRow w4.heap.size 101 3 r k ((underB (L.take k) [(s, (false, tl))]).flatMap bndC)) (fun _ i _ => L.length - (intOf i).toNat)
  case atStart => exact ⟨0, by omega, rfl, Since.refl _, World.ownsRow_nil _ _ _ _⟩
  case round =>
    obtain ⟨k, hk, rfl, hSr, how⟩ := hrel
    have hz : w4.heap.size ≤ wr.heap.size := hSr.size
    by_cases hlt : k < L.length
    · obtain ⟨b, o, he, _, hc, hat⟩ := bnd_get (HV.out.next (hS4.trans hSr)) (by omega)
      cases he
      obtain ⟨d0, d1, d2⟩ := hat k hlt
      have HD : Hid (∀ W, Since wr W → BndAt W b (o + k * 3) L[k]) := fun W hW => (hat k hlt).next hW
      have hg2 : (k : Int) < (L.length : Int) := by omega
      have hg0 : (0 : Int) ≤ (k : Int) := by omega
      have HST := Lib.hid (under_step (M := [(s, (false, tl))]) hlt)
      clear hat
      generalize L[k] = x at *
      obtain ⟨xs, xv, xt⟩ := x
      simp only at d0 d1 d2 HST
      obtain ⟨y, hy⟩ : ∃ y, Hid (y = termS [(s, (false, tl))] (xv, xt)) := ⟨_, rfl⟩
      have HC := Lib.hid (fun W (h : Since wr W) => HT1.out xv xt W _ (MR.out.next (hSr.trans h)))
      rw [← hy.out] at HC HST
      obtain ⟨yv, yt⟩ := y
      simp only [tmV] at HC
      clear hy HT1
      go_wp2_with fail
      have howd : wr.drew.ownsRow w4.heap.size 101 3 u11 k ((underB (L.take k) [(s, (false, tl))]).flatMap bndC) := how
      go_region_law (first
        | (go_simp; go_at_call 105; (with_reducible refine Calls.mono (HC.out _ ?_) ?_); (first | exact (Since.refl _).drew | exact Since.refl _); rintro e w8 ⟨rfl, hb8⟩; have hS8 : Since wr w8 := ((Since.refl _).drew).trans hb8; obtain ⟨d0, d1, d2⟩ := HD.out w8 hS8; have how8 := ownB_since howd hb8; have hz8 : w4.heap.size ≤ w8.heap.size := Nat.le_trans hz hS8.size)
        | ((refine step_append_own rfl (.tmp 52) (.tmp 66) 86 rfl w4.heap.size 101 i0 (.agg #[.string ⟨#[]⟩, .bool false, .string ⟨#[]⟩]) 3 40 Tryz.underlying86 HI.out.1 HI.out.2.1 HI.out.2.2.1 HI.out.2.2.2 rfl (by decide) u11 k ((underB (L.take k) [(s, (false, tl))]).flatMap bndC) rfl (how8.alloc _) ⟨w8.heap.size, 0, none⟩ 1 1 (bndC (xs, (yv, yt))) rfl rfl (cells_lit _ _ _ _ rfl) (bnd_one _) (by unfold maxLen; omega) (by omega) (by simp; omega) ?_); intro v9 w9 hown9 hg9 _; have hB9 := below_append (hSr.trans hS8) hz8 how8 hg9))
      all_goals
        rw [← flat_push, ← HST.out] at hown9
        go_wp2_with fail
        go_roundw
        case rel => exact ⟨k + 1, by omega, by go_num, hB9, hown9⟩
        case measure => simp [intOf]; omega
    · have hlt2 : ¬ (k : Int) < (L.length : Int) := by omega
      have hkl : k = L.length := by omega
      subst hkl
      rw [List.take_length] at how
      have RU := Lib.hid (rowS_of_own how (under_len _ _))
      have hSw := hS4.trans hSr
      obtain ⟨b, o, he, -, hc, hat⟩ := bnd_get (MR.out.next hSr) (by simp)
      cases he
      obtain ⟨e0, e1, e2⟩ := hat 0 (by simp)
      have f0 : wr.cell? ⟨w3.heap.size + 1, 0, none⟩ = some (.string ⟨s.toArray⟩) := e0
      have f1 : wr.cell? ⟨w3.heap.size + 1, 1, none⟩ = some (.bool false) := e1
      have f2 : wr.cell? ⟨w3.heap.size + 1, 2, none⟩ = some (.string ⟨tl.toArray⟩) := e2
      clear hat how HT1 e0 e1 e2 hz hlt hc
      go_wp2_with fail
      refine (HPU.out _ _ RU.out.1).mono ?_
      rintro e w9 ⟨v9, rfl, hv9, hb9⟩
      go_wp2_with fail
      go_ret2
      exact ⟨_, rfl, hv9, hSw.trans hb9⟩
end Go.Proofs.YtdlnmkdbjgbimaaGreatDoor

namespace Go.Proofs.YtdlnmkdbjgbimaaGreatDoor
open Go.RowKit
attribute [local go_sem ↓] run_termEq'
attribute [local go_sem] eqT_self

theorem tinfo2 : (Tryz.prog.info? 26).map (·.size) = some 2 := by kernel_rfl
set_option maxHeartbeats 2000000 in
set_option maxRecDepth 100000 in
theorem alike_yes (s p : List UInt8) (n : Nat) (a_v0 a_v1 a_v2 a_v3 : Bool) (a_l0 a_l1 a_l2 a_l3 : List UInt8) (b_v0 b_v1 b_v2 b_v3 : Bool) (b_l0 b_l1 b_l2 b_l3 : List UInt8) (hn : n ≤ 4) (w : World) :
    Calls Tryz.prog 95 #[.agg #[.string ⟨s.toArray⟩, .string ⟨p.toArray⟩, .int .i64 (n : Int), .bool a_v0, .string ⟨a_l0.toArray⟩, .bool a_v1, .string ⟨a_l1.toArray⟩, .bool a_v2, .string ⟨a_l2.toArray⟩, .bool a_v3, .string ⟨a_l3.toArray⟩], .agg #[.string ⟨s.toArray⟩, .string ⟨p.toArray⟩, .int .i64 (n : Int), .bool b_v0, .string ⟨b_l0.toArray⟩, .bool b_v1, .string ⟨b_l1.toArray⟩, .bool b_v2, .string ⟨b_l2.toArray⟩, .bool b_v3, .string ⟨b_l3.toArray⟩]] w fun e w' => e = .returned (.bool true) ∧ Since w w' := by
  have hS : Since w ((w.alloc (.cells #[.string ⟨s.toArray⟩, .string ⟨p.toArray⟩, .int .i64 (n : Int), .bool a_v0, .string ⟨a_l0.toArray⟩, .bool a_v1, .string ⟨a_l1.toArray⟩, .bool a_v2, .string ⟨a_l2.toArray⟩, .bool a_v3, .string ⟨a_l3.toArray⟩] 29)).alloc (.cells #[.string ⟨s.toArray⟩, .string ⟨p.toArray⟩, .int .i64 (n : Int), .bool b_v0, .string ⟨b_l0.toArray⟩, .bool b_v1, .string ⟨b_l1.toArray⟩, .bool b_v2, .string ⟨b_l2.toArray⟩, .bool b_v3, .string ⟨b_l3.toArray⟩] 29)) := ((Since.refl _).alloc _).alloc _
  have a_B : Box ((w.alloc (.cells #[.string ⟨s.toArray⟩, .string ⟨p.toArray⟩, .int .i64 (n : Int), .bool a_v0, .string ⟨a_l0.toArray⟩, .bool a_v1, .string ⟨a_l1.toArray⟩, .bool a_v2, .string ⟨a_l2.toArray⟩, .bool a_v3, .string ⟨a_l3.toArray⟩] 29)).alloc (.cells #[.string ⟨s.toArray⟩, .string ⟨p.toArray⟩, .int .i64 (n : Int), .bool b_v0, .string ⟨b_l0.toArray⟩, .bool b_v1, .string ⟨b_l1.toArray⟩, .bool b_v2, .string ⟨b_l2.toArray⟩, .bool b_v3, .string ⟨b_l3.toArray⟩] 29)) w.heap.size ((s, p, (n : Int), (a_v0, a_l0), (a_v1, a_l1), (a_v2, a_l2), (a_v3, a_l3)) : Atm) := (box_new w ((s, p, (n : Int), (a_v0, a_l0), (a_v1, a_l1), (a_v2, a_l2), (a_v3, a_l3)) : Atm) _).next ((Since.refl _).alloc _)
  have b_B : Box ((w.alloc (.cells #[.string ⟨s.toArray⟩, .string ⟨p.toArray⟩, .int .i64 (n : Int), .bool a_v0, .string ⟨a_l0.toArray⟩, .bool a_v1, .string ⟨a_l1.toArray⟩, .bool a_v2, .string ⟨a_l2.toArray⟩, .bool a_v3, .string ⟨a_l3.toArray⟩] 29)).alloc (.cells #[.string ⟨s.toArray⟩, .string ⟨p.toArray⟩, .int .i64 (n : Int), .bool b_v0, .string ⟨b_l0.toArray⟩, .bool b_v1, .string ⟨b_l1.toArray⟩, .bool b_v2, .string ⟨b_l2.toArray⟩, .bool b_v3, .string ⟨b_l3.toArray⟩] 29)) (w.heap.size + 1) ((s, p, (n : Int), (b_v0, b_l0), (b_v1, b_l1), (b_v2, b_l2), (b_v3, b_l3)) : Atm) := by
    have := box_new (w.alloc (.cells #[.string ⟨s.toArray⟩, .string ⟨p.toArray⟩, .int .i64 (n : Int), .bool a_v0, .string ⟨a_l0.toArray⟩, .bool a_v1, .string ⟨a_l1.toArray⟩, .bool a_v2, .string ⟨a_l2.toArray⟩, .bool a_v3, .string ⟨a_l3.toArray⟩] 29)) ((s, p, (n : Int), (b_v0, b_l0), (b_v1, b_l1), (b_v2, b_l2), (b_v3, b_l3)) : Atm) 29
    rwa [World.size_alloc] at this
  have a0 := a_B.s
  have a1 := a_B.p
  have a2 := a_B.n
  have b0 := b_B.s
  have b1 := b_B.p
  have b2 := b_B.n
  have hi0 : (0 : Int) ≤ (n : Int) := by omega
  have hi4 : (n : Int) ≤ 4 := by omega
  clear a_B b_B
  go_enter Tryz.func95, Tryz.ntmps95
  go_wp2_with fail
  go_ret
  exact ⟨rfl, hS⟩
set_option maxHeartbeats 2000000 in
set_option maxRecDepth 100000 in
theorem alike_no (a_s a_p : List UInt8) (a_n : Int) (a_v0 a_v1 a_v2 a_v3 : Bool) (a_l0 a_l1 a_l2 a_l3 : List UInt8) (b_s b_p : List UInt8) (b_n : Int) (b_v0 b_v1 b_v2 b_v3 : Bool) (b_l0 b_l1 b_l2 b_l3 : List UInt8) (h : ¬ (a_s = b_s ∧ a_p = b_p ∧ a_n = b_n)) (w : World) :
    Calls Tryz.prog 95 #[.agg #[.string ⟨a_s.toArray⟩, .string ⟨a_p.toArray⟩, .int .i64 a_n, .bool a_v0, .string ⟨a_l0.toArray⟩, .bool a_v1, .string ⟨a_l1.toArray⟩, .bool a_v2, .string ⟨a_l2.toArray⟩, .bool a_v3, .string ⟨a_l3.toArray⟩], .agg #[.string ⟨b_s.toArray⟩, .string ⟨b_p.toArray⟩, .int .i64 b_n, .bool b_v0, .string ⟨b_l0.toArray⟩, .bool b_v1, .string ⟨b_l1.toArray⟩, .bool b_v2, .string ⟨b_l2.toArray⟩, .bool b_v3, .string ⟨b_l3.toArray⟩]] w fun e w' => e = .returned (.bool false) ∧ Since w w' := by
  have hS : Since w ((w.alloc (.cells #[.string ⟨a_s.toArray⟩, .string ⟨a_p.toArray⟩, .int .i64 a_n, .bool a_v0, .string ⟨a_l0.toArray⟩, .bool a_v1, .string ⟨a_l1.toArray⟩, .bool a_v2, .string ⟨a_l2.toArray⟩, .bool a_v3, .string ⟨a_l3.toArray⟩] 29)).alloc (.cells #[.string ⟨b_s.toArray⟩, .string ⟨b_p.toArray⟩, .int .i64 b_n, .bool b_v0, .string ⟨b_l0.toArray⟩, .bool b_v1, .string ⟨b_l1.toArray⟩, .bool b_v2, .string ⟨b_l2.toArray⟩, .bool b_v3, .string ⟨b_l3.toArray⟩] 29)) := ((Since.refl _).alloc _).alloc _
  have a_B : Box ((w.alloc (.cells #[.string ⟨a_s.toArray⟩, .string ⟨a_p.toArray⟩, .int .i64 a_n, .bool a_v0, .string ⟨a_l0.toArray⟩, .bool a_v1, .string ⟨a_l1.toArray⟩, .bool a_v2, .string ⟨a_l2.toArray⟩, .bool a_v3, .string ⟨a_l3.toArray⟩] 29)).alloc (.cells #[.string ⟨b_s.toArray⟩, .string ⟨b_p.toArray⟩, .int .i64 b_n, .bool b_v0, .string ⟨b_l0.toArray⟩, .bool b_v1, .string ⟨b_l1.toArray⟩, .bool b_v2, .string ⟨b_l2.toArray⟩, .bool b_v3, .string ⟨b_l3.toArray⟩] 29)) w.heap.size ((a_s, a_p, a_n, (a_v0, a_l0), (a_v1, a_l1), (a_v2, a_l2), (a_v3, a_l3)) : Atm) := (box_new w ((a_s, a_p, a_n, (a_v0, a_l0), (a_v1, a_l1), (a_v2, a_l2), (a_v3, a_l3)) : Atm) _).next ((Since.refl _).alloc _)
  have b_B : Box ((w.alloc (.cells #[.string ⟨a_s.toArray⟩, .string ⟨a_p.toArray⟩, .int .i64 a_n, .bool a_v0, .string ⟨a_l0.toArray⟩, .bool a_v1, .string ⟨a_l1.toArray⟩, .bool a_v2, .string ⟨a_l2.toArray⟩, .bool a_v3, .string ⟨a_l3.toArray⟩] 29)).alloc (.cells #[.string ⟨b_s.toArray⟩, .string ⟨b_p.toArray⟩, .int .i64 b_n, .bool b_v0, .string ⟨b_l0.toArray⟩, .bool b_v1, .string ⟨b_l1.toArray⟩, .bool b_v2, .string ⟨b_l2.toArray⟩, .bool b_v3, .string ⟨b_l3.toArray⟩] 29)) (w.heap.size + 1) ((b_s, b_p, b_n, (b_v0, b_l0), (b_v1, b_l1), (b_v2, b_l2), (b_v3, b_l3)) : Atm) := by
    have := box_new (w.alloc (.cells #[.string ⟨a_s.toArray⟩, .string ⟨a_p.toArray⟩, .int .i64 a_n, .bool a_v0, .string ⟨a_l0.toArray⟩, .bool a_v1, .string ⟨a_l1.toArray⟩, .bool a_v2, .string ⟨a_l2.toArray⟩, .bool a_v3, .string ⟨a_l3.toArray⟩] 29)) ((b_s, b_p, b_n, (b_v0, b_l0), (b_v1, b_l1), (b_v2, b_l2), (b_v3, b_l3)) : Atm) 29
    rwa [World.size_alloc] at this
  have a0 := a_B.s
  have a1 := a_B.p
  have a2 := a_B.n
  have b0 := b_B.s
  have b1 := b_B.p
  have b2 := b_B.n
  clear a_B b_B
  go_enter Tryz.func95, Tryz.ntmps95
  by_cases h1 : a_s = b_s
  · subst h1
    by_cases h2 : a_p = b_p
    · subst h2
      have h3 : ¬ a_n = b_n := fun e => h ⟨rfl, rfl, e⟩
      clear h
      go_wp2_with fail
      go_ret
      exact ⟨rfl, hS⟩
    · clear h
      go_wp2_with fail
      go_ret
      exact ⟨rfl, hS⟩
  · clear h
    go_wp2_with fail
    go_ret
    exact ⟨rfl, hS⟩
set_option maxHeartbeats 8000000 in
set_option maxRecDepth 100000 in
theorem rextend_main (v0 : Value) (l0 : List Bnd) (s p : List UInt8) (n : Nat) (a_v0 a_v1 a_v2 a_v3 : Bool) (a_l0 a_l1 a_l2 a_l3 : List UInt8) (b_v0 b_v1 b_v2 b_v3 : Bool) (b_l0 b_l1 b_l2 b_l3 : List UInt8) (hn : n ≤ 4) (w : World) (hv : RowS w v0 l0) (hl : bndN l0) (hll : l0.length ≤ 500)
    (hP : NamedP (((argsL ((s, p, (n : Int), (a_v0, a_l0), (a_v1, a_l1), (a_v2, a_l2), (a_v3, a_l3)) : Atm)).zip (argsL ((s, p, (n : Int), (b_v0, b_l0), (b_v1, b_l1), (b_v2, b_l2), (b_v3, b_l3)) : Atm))).take n)) (hG : ∀ q ∈ (((argsL ((s, p, (n : Int), (a_v0, a_l0), (a_v1, a_l1), (a_v2, a_l2), (a_v3, a_l3)) : Atm)).zip (argsL ((s, p, (n : Int), (b_v0, b_l0), (b_v1, b_l1), (b_v2, b_l2), (b_v3, b_l3)) : Atm))).take n), q.2.1 = false) (hgr : groundA ((s, p, (n : Int), (b_v0, b_l0), (b_v1, b_l1), (b_v2, b_l2), (b_v3, b_l3)) : Atm) = true) :
    Calls Tryz.prog 76 #[v0, .agg #[.string ⟨s.toArray⟩, .string ⟨p.toArray⟩, .int .i64 (n : Int), .bool a_v0, .string ⟨a_l0.toArray⟩, .bool a_v1, .string ⟨a_l1.toArray⟩, .bool a_v2, .string ⟨a_l2.toArray⟩, .bool a_v3, .string ⟨a_l3.toArray⟩], .agg #[.string ⟨s.toArray⟩, .string ⟨p.toArray⟩, .int .i64 (n : Int), .bool b_v0, .string ⟨b_l0.toArray⟩, .bool b_v1, .string ⟨b_l1.toArray⟩, .bool b_v2, .string ⟨b_l2.toArray⟩, .bool b_v3, .string ⟨b_l3.toArray⟩]] w (MatchP (matchF (((argsL ((s, p, (n : Int), (a_v0, a_l0), (a_v1, a_l1), (a_v2, a_l2), (a_v3, a_l3)) : Atm)).zip (argsL ((s, p, (n : Int), (b_v0, b_l0), (b_v1, b_l1), (b_v2, b_l2), (b_v3, b_l3)) : Atm))).take n) l0) w) := by
  obtain ⟨va, vc, rfl⟩ := hv.1.form
  have HV := Lib.hid hv
  have HLI := Lib.hid hl
  have hat := fun k (hk : k < n) => uni_pairs (a := ((s, p, (n : Int), (a_v0, a_l0), (a_v1, a_l1), (a_v2, a_l2), (a_v3, a_l3)) : Atm)) (b := ((s, p, (n : Int), (b_v0, b_l0), (b_v1, b_l1), (b_v2, b_l2), (b_v3, b_l3)) : Atm)) hn hk
  have hPl := pairs_len ((s, p, (n : Int), (a_v0, a_l0), (a_v1, a_l1), (a_v2, a_l2), (a_v3, a_l3)) : Atm) ((s, p, (n : Int), (b_v0, b_l0), (b_v1, b_l1), (b_v2, b_l2), (b_v3, b_l3)) : Atm) hn
  obtain ⟨P, hP0⟩ : ∃ P, Hid (P = (((argsL ((s, p, (n : Int), (a_v0, a_l0), (a_v1, a_l1), (a_v2, a_l2), (a_v3, a_l3)) : Atm)).zip (argsL ((s, p, (n : Int), (b_v0, b_l0), (b_v1, b_l1), (b_v2, b_l2), (b_v3, b_l3)) : Atm))).take n)) := ⟨_, rfl⟩
  rw [← hP0.out] at hP hPl hG ⊢
  rw [← hP0.out] at hat
  have HNP := Lib.hid hP
  have HGP := Lib.hid hG
  have HGR := Lib.hid (fun W => rground_any s p (n : Int) b_v0 b_v1 b_v2 b_v3 b_l0 b_l1 b_l2 b_l3 W)
  rw [hgr] at HGR
  have HAL := Lib.hid (fun W => alike_yes s p n a_v0 a_v1 a_v2 a_v3 a_l0 a_l1 a_l2 a_l3 b_v0 b_v1 b_v2 b_v3 b_l0 b_l1 b_l2 b_l3 hn W)
  obtain ⟨R, hR⟩ : ∃ R, Hid (R = matchF P l0) := ⟨_, rfl⟩
  have hR0 : Hid (R = matchF (P.drop 0) l0) := hR
  rw [← hR.out]
  obtain ⟨i0, hi0, hz0, hz1, hz2⟩ := info_parts bndInfo
  have HI := Lib.hid (And.intro hi0 (And.intro hz0 (And.intro hz1 hz2)))
  have hS2 : Since w ((w.alloc (.cells #[.string ⟨s.toArray⟩, .string ⟨p.toArray⟩, .int .i64 (n : Int), .bool a_v0, .string ⟨a_l0.toArray⟩, .bool a_v1, .string ⟨a_l1.toArray⟩, .bool a_v2, .string ⟨a_l2.toArray⟩, .bool a_v3, .string ⟨a_l3.toArray⟩] 29)).alloc (.cells #[.string ⟨s.toArray⟩, .string ⟨p.toArray⟩, .int .i64 (n : Int), .bool b_v0, .string ⟨b_l0.toArray⟩, .bool b_v1, .string ⟨b_l1.toArray⟩, .bool b_v2, .string ⟨b_l2.toArray⟩, .bool b_v3, .string ⟨b_l3.toArray⟩] 29)) := ((Since.refl _).alloc _).alloc _
  have a_B : Box ((w.alloc (.cells #[.string ⟨s.toArray⟩, .string ⟨p.toArray⟩, .int .i64 (n : Int), .bool a_v0, .string ⟨a_l0.toArray⟩, .bool a_v1, .string ⟨a_l1.toArray⟩, .bool a_v2, .string ⟨a_l2.toArray⟩, .bool a_v3, .string ⟨a_l3.toArray⟩] 29)).alloc (.cells #[.string ⟨s.toArray⟩, .string ⟨p.toArray⟩, .int .i64 (n : Int), .bool b_v0, .string ⟨b_l0.toArray⟩, .bool b_v1, .string ⟨b_l1.toArray⟩, .bool b_v2, .string ⟨b_l2.toArray⟩, .bool b_v3, .string ⟨b_l3.toArray⟩] 29)) w.heap.size ((s, p, (n : Int), (a_v0, a_l0), (a_v1, a_l1), (a_v2, a_l2), (a_v3, a_l3)) : Atm) := (box_new w ((s, p, (n : Int), (a_v0, a_l0), (a_v1, a_l1), (a_v2, a_l2), (a_v3, a_l3)) : Atm) _).next ((Since.refl _).alloc _)
  have b_B : Box ((w.alloc (.cells #[.string ⟨s.toArray⟩, .string ⟨p.toArray⟩, .int .i64 (n : Int), .bool a_v0, .string ⟨a_l0.toArray⟩, .bool a_v1, .string ⟨a_l1.toArray⟩, .bool a_v2, .string ⟨a_l2.toArray⟩, .bool a_v3, .string ⟨a_l3.toArray⟩] 29)).alloc (.cells #[.string ⟨s.toArray⟩, .string ⟨p.toArray⟩, .int .i64 (n : Int), .bool b_v0, .string ⟨b_l0.toArray⟩, .bool b_v1, .string ⟨b_l1.toArray⟩, .bool b_v2, .string ⟨b_l2.toArray⟩, .bool b_v3, .string ⟨b_l3.toArray⟩] 29)) (w.heap.size + 1) ((s, p, (n : Int), (b_v0, b_l0), (b_v1, b_l1), (b_v2, b_l2), (b_v3, b_l3)) : Atm) := by
    have := box_new (w.alloc (.cells #[.string ⟨s.toArray⟩, .string ⟨p.toArray⟩, .int .i64 (n : Int), .bool a_v0, .string ⟨a_l0.toArray⟩, .bool a_v1, .string ⟨a_l1.toArray⟩, .bool a_v2, .string ⟨a_l2.toArray⟩, .bool a_v3, .string ⟨a_l3.toArray⟩] 29)) ((s, p, (n : Int), (b_v0, b_l0), (b_v1, b_l1), (b_v2, b_l2), (b_v3, b_l3)) : Atm) 29
    rwa [World.size_alloc] at this
  clear hv hl hP hG hR hP0 hi0 hz0 hz1 hz2 hgr
  go_enter Tryz.func76, Tryz.ntmps76
  go_wp2_with fail
  refine (rcheckb_any (.slice va l0.length vc) l0 _ (HV.out.next hS2).1 HLI.out.1 (by omega)).mono ?_
  rintro e w1 ⟨rfl, hb⟩
  have hS := hS2.trans hb
  replace a_B := a_B.next hb
  replace b_B := b_B.next hb
  clear hb hS2
  obtain ⟨a_c0, a_c1, a_c2, a_c3, a_c4, a_c5, a_c6, a_c7, a_c8, a_c9, a_c10⟩ := a_B.all
  obtain ⟨b_c0, b_c1, b_c2, b_c3, b_c4, b_c5, b_c6, b_c7, b_c8, b_c9, b_c10⟩ := b_B.all
  go_wp2_with fail
  refine (HAL.out _).mono ?_
  rintro e w3 ⟨rfl, hb⟩
  replace hS := hS.trans hb
  replace a_B := a_B.next hb
  replace b_B := b_B.next hb
  clear hb HAL a_c0 a_c1 a_c2 a_c3 a_c4 a_c5 a_c6 a_c7 a_c8 a_c9 a_c10 b_c0 b_c1 b_c2 b_c3 b_c4 b_c5 b_c6 b_c7 b_c8 b_c9 b_c10
  obtain ⟨b_c0, b_c1, b_c2, b_c3, b_c4, b_c5, b_c6, b_c7, b_c8, b_c9, b_c10⟩ := b_B.all
  go_wp2_with fail
  refine (HGR.out _).mono ?_
  rintro e w4 ⟨rfl, hb⟩
  replace hS := hS.trans hb
  replace a_B := a_B.next hb
  replace b_B := b_B.next hb
  clear hb HGR b_c0 b_c1 b_c2 b_c3 b_c4 b_c5 b_c6 b_c7 b_c8 b_c9 b_c10
  have HA := Lib.hid a_B
  have HB := Lib.hid b_B
  clear a_B b_B
  go_wp2_with fail
  go_loopw [8] (fun i wr => ∃ k : Nat, k ≤ n ∧ i = .int .i64 (k : Int) ∧ Since w4 wr) (fun i _ => n - (intOf i).toNat)
  case atStart => exact ⟨0, by omega, rfl, Since.refl _⟩
  case round =>
    obtain ⟨k, hk, rfl, hSr⟩ := hrel
    have a2 := (HA.out.next hSr).n
    by_cases hlt : k < n
    · obtain ⟨q0, q1, q2, q3⟩ := hat k hlt
      obtain ⟨d0, d1⟩ := (HA.out.next hSr).args.2 k q1
      have hnm := HNP.out _ (List.getElem_mem q0)
      rw [q3] at hnm
      have hk4i : (k : Int) < 4 := by omega
      have hk4 : k < 4 := by omega
      have hlt2 : (k : Int) < (n : Int) := by omega
      clear hat HNP HGP
      generalize (argsL ((s, p, (n : Int), (a_v0, a_l0), (a_v1, a_l1), (a_v2, a_l2), (a_v3, a_l3)) : Atm))[k]'q1 = t1 at *
      obtain ⟨v1, m1⟩ := t1
      simp only at d0 d1 hnm
      have hem : m1.isEmpty = false := by rw [List.isEmpty_eq_false_iff]; exact hnm.1
      clear q3 hnm
      have KX : Hid (Cel (wr.alloc (.cells #[.bool v1, .string ⟨m1.toArray⟩] 26)) wr.heap.size #[.bool v1, .string ⟨m1.toArray⟩] 26) := heap_alloc_new wr _
      obtain ⟨x0, x1⟩ := KX.out.two
      have HGT := Lib.hid (rget_any (.slice va l0.length vc) l0 m1 (wr.alloc (.cells #[.bool v1, .string ⟨m1.toArray⟩] 26)) (HV.out.next ((hS.trans hSr).alloc _)).1 (by omega))
      cases hg : getB l0 m1 with
      | none =>
        rw [hg] at HGT
        simp only [gtV] at HGT
        go_wp2_with fail
        refine HGT.out.mono ?_
        rintro e w5 ⟨rfl, hb⟩
        have hb2 := hb.alloc (.cells #[.bool false, .string ⟨#[]⟩] 26)
        obtain ⟨y0, y1⟩ := (KX.out.next hb2).two
        have hSn := (hSr.alloc (.cells #[.bool v1, .string ⟨m1.toArray⟩] 26)).trans hb2
        clear x0 x1 hb HGT
        cases v1
        · go_wp2_with fail
          go_roundw
          case rel => exact ⟨k + 1, by omega, by go_num, hSn⟩
          case measure => simp [intOf]; omega
        · go_wp2_with fail
          go_roundw
          case rel => exact ⟨k + 1, by omega, by go_num, hSn⟩
          case measure => simp [intOf]; omega
      | some z =>
        obtain ⟨zv, zt⟩ := z
        have hzv : zv = false := get_const HLI.out.2 hg
        subst hzv
        rw [hg] at HGT
        simp only [gtV] at HGT
        go_wp2_with fail
        refine HGT.out.mono ?_
        rintro e w5 ⟨rfl, hb⟩
        have hb2 := hb.alloc (.cells #[.bool false, .string ⟨zt.toArray⟩] 26)
        obtain ⟨y0, y1⟩ := (KX.out.next hb2).two
        have KZ : Cel (w5.alloc (.cells #[.bool false, .string ⟨zt.toArray⟩] 26)) w5.heap.size #[.bool false, .string ⟨zt.toArray⟩] 26 := heap_alloc_new w5 _
        obtain ⟨z0, z1⟩ := KZ.two
        have hSn := (hSr.alloc (.cells #[.bool v1, .string ⟨m1.toArray⟩] 26)).trans hb2
        clear x0 x1 hb HGT
        cases v1
        · go_wp2_with fail
          go_roundw
          case rel => exact ⟨k + 1, by omega, by go_num, hSn⟩
          case measure => simp [intOf]; omega
        · go_wp2_with fail
          go_roundw
          case rel => exact ⟨k + 1, by omega, by go_num, hSn⟩
          case measure => simp [intOf]; omega
    · have hlt2 : ¬ (k : Int) < (n : Int) := by omega
      have hSw := hS.trans hSr
      replace HA := Lib.hid (HA.out.next hSr)
      replace HB := Lib.hid (HB.out.next hSr)
      clear hS hSr
      have HRC := Lib.hid (reads_of_rowOf (f := bndC) (fun _ => rfl) (HV.out.next (hSw.alloc (.cells #[] 101))).1 (by decide))
      go_wp2_with (at_builtin; refine wpList_append_any _ rfl (.tmp 65) (.tmp 66) 86 rfl wr.heap.size 101 i0 (.agg #[.string ⟨#[]⟩, .bool false, .string ⟨#[]⟩]) 3 40 Tryz.underlying86 HI.out.1 HI.out.2.1 HI.out.2.2.1 HI.out.2.2.2 rfl (by decide) _ 0 [] rfl (own_emptyB wr) _ va l0.length vc (l0.flatMap bndC) rfl HRC.out ?c1 ?c2 ?c3 ?c4 ?_)
      case c1 => (intro u x h; rcases h with ⟨b, _, hb⟩ | ⟨b, _, hb⟩ <;> (simp only [bndC, List.mem_cons, List.not_mem_nil, or_false] at hb; rcases hb with rfl | rfl | rfl <;> rfl))
      case c2 => unfold maxLen; omega
      case c3 => omega
      intro v9 w9 hown9 hg9 _
      have hB9 : Since wr w9 := Below.grown ((Since.refl wr).alloc _) hg9 (by simp) (own_ge (own_emptyB wr))
      have hR9 : RowS w9 v9 l0 := rowS_of_own (n := 0 + l0.length) (by simpa using hown9) (by omega)
      replace hSw := hSw.trans hB9
      replace HA := Lib.hid (HA.out.next hB9)
      replace HB := Lib.hid (HB.out.next hB9)
      clear hB9 hown9 hg9 HRC a2 hlt hlt2 hk
      go_wp2_with fail
      go_loopw [12, 13] (fun r i wr => ∃ (k : Nat) (l : List Bnd), k ≤ n ∧ i = .int .i64 (k : Int) ∧ Since w9 wr ∧ Hid (RowS wr r l) ∧ Hid (InvB l) ∧ Hid (l.length ≤ l0.length + k) ∧ Hid (R = matchF (P.drop k) l)) (fun _ i _ => n - (intOf i).toNat)
      case atStart => exact ⟨0, l0, by omega, rfl, Since.refl _, hR9, HLI.out.1, Nat.le_refl _, hR0.out⟩
      case round =>
        clear hR9 hR0
        obtain ⟨k, l, hk, rfl, hSo, hV, hI, hL, hres⟩ := hrel
        have a2 := (HA.out.next hSo).n
        by_cases hlt : k < n
        · have hlt2 : (k : Int) < (n : Int) := by omega
          obtain ⟨q0, q1, q2, q3⟩ := hat k hlt
          obtain ⟨d0, d1⟩ := (HA.out.next hSo).args.2 k q1
          obtain ⟨e0, e1⟩ := (HB.out.next hSo).args.2 k q2
          have hnm := HNP.out _ (List.getElem_mem q0)
          have hgp := HGP.out _ (List.getElem_mem q0)
          have hdr := List.drop_eq_getElem_cons q0
          rw [q3] at hnm hdr hgp
          have hk4 : k < 4 := by omega
          have hk4i : (k : Int) < 4 := by omega
          clear hat HNP HGP
          generalize (argsL ((s, p, (n : Int), (a_v0, a_l0), (a_v1, a_l1), (a_v2, a_l2), (a_v3, a_l3)) : Atm))[k]'q1 = t1 at *
          generalize (argsL ((s, p, (n : Int), (b_v0, b_l0), (b_v1, b_l1), (b_v2, b_l2), (b_v3, b_l3)) : Atm))[k]'q2 = t2 at *
          rw [hdr, matchF] at hres
          clear q3 hdr
          obtain ⟨v1, m1⟩ := t1
          obtain ⟨v2, m2⟩ := t2
          simp only at d0 d1 e0 e1 hnm hres hgp
          subst hgp
          go_wp2_with fail
          refine wp_region_invX (X := Value × Value × Value × Value × Value × Value × Value × Value × Value × Value × Nat × Nat) (fun a0 x => match x with | (x74, x75, x76, x77, x78, x79, x80, x81, x14, x15, g14, g15) => Act.put (Act.put (Act.put (Act.put (Act.put (Act.put (Act.put (Act.put (Act.put (Act.put (a0) (some 74) x74) (some 75) x75) (some 76) x76) (some 77) x77) (some 78) x78) (some 79) x79) (some 80) x80) (some 81) x81) (some 14) x14) (some 15) x15) (fun x L W => match x with | (x74, x75, x76, x77, x78, x79, x80, x81, x14, x15, g14, g15) => Since (wr) W ∧ (L.getD 0 false = true → x74 = .int .i64 (k : Int)) ∧ (L.getD 1 false = true → x75 = .pointer (some ⟨w.heap.size, 3, none⟩)) ∧ (L.getD 2 false = true → x76 = .pointer (some ⟨w.heap.size, 3 + k * 2, none⟩)) ∧ (L.getD 3 false = true → x77 = .agg #[.bool v1, .string ⟨m1.toArray⟩]) ∧ (L.getD 4 false = true → x78 = .int .i64 (k : Int)) ∧ (L.getD 5 false = true → x79 = .pointer (some ⟨w.heap.size + 1, 3, none⟩)) ∧ (L.getD 6 false = true → x80 = .pointer (some ⟨w.heap.size + 1, 3 + k * 2, none⟩)) ∧ (L.getD 7 false = true → x81 = .agg #[.bool false, .string ⟨m2.toArray⟩]) ∧ (L.getD 8 false = true → x14 = .pointer (some ⟨g14, 0, none⟩) ∧ (wr).heap.size ≤ g14 ∧ g14 < W.heap.size) ∧ (L.getD 10 false = true → L.getD 8 false = true) ∧ (L.getD 8 false = true → L.getD 10 false = false → Cel W g14 #[.bool false, .string ⟨#[]⟩] 26) ∧ (L.getD 10 false = true → Cel W g14 #[.bool v1, .string ⟨m1.toArray⟩] 26) ∧ (L.getD 9 false = true → x15 = .pointer (some ⟨g15, 0, none⟩) ∧ (wr).heap.size ≤ g15 ∧ g15 < W.heap.size) ∧ (L.getD 11 false = true → L.getD 9 false = true) ∧ (L.getD 9 false = true → L.getD 11 false = false → Cel W g15 #[.bool false, .string ⟨#[]⟩] 26) ∧ (L.getD 11 false = true → Cel W g15 #[.bool false, .string ⟨m2.toArray⟩] 26) ∧ (L.getD 8 false = true → L.getD 9 false = true → g14 ≠ g15)) (by kernel_rfl) (by kernel_rfl) ?start ?steps ?stop
          case start => exact fun b v hv => ⟨(v 74, v 75, v 76, v 77, v 78, v 79, v 80, v 81, v 14, v 15, 0, 0), (by simp only [hv]), (Since.refl _).drew, fun h => none_yet h, fun h => none_yet h, fun h => none_yet h, fun h => none_yet h, fun h => none_yet h, fun h => none_yet h, fun h => none_yet h, fun h => none_yet h, fun h => none_yet h, fun h => none_yet h, fun h => none_yet h, fun h => none_yet h, fun h => none_yet h, fun h => none_yet h, fun h => none_yet h, fun h => none_yet h, fun h => none_yet h⟩
          case steps =>
            refine ⟨⟨rfl, ?_⟩, ⟨rfl, ?_⟩, ⟨rfl, ?_⟩, ⟨rfl, ?_⟩, ⟨rfl, ?_⟩, ⟨rfl, ?_⟩, ⟨rfl, ?_⟩, ⟨rfl, ?_⟩, ⟨rfl, ?_⟩, ⟨rfl, ?_⟩, ⟨rfl, ?_⟩, ⟨rfl, ?_⟩, trivial⟩
            · intro L x W hJ hlt hk hd K' hK
              obtain ⟨x74, x75, x76, x77, x78, x79, x80, x81, x14, x15, g14, g15⟩ := x
              obtain ⟨hS, f0, f1, f2, f3, f4, f5, f6, f7, p8, q8, z8, c8, p9, q9, z9, c9, n8_9⟩ := hJ
              refine ⟨?_⟩
              simp only [Act.put, List.setIfInBounds_toArray, List.set_cons_zero, List.set_cons_succ]
              go_simp
              refine kput (hK ((.int .i64 (k : Int)), x75, x76, x77, x78, x79, x80, x81, x14, x15, g14, g15) _ ⟨hS, fun _ => rfl, fun h => f1 (not_k h (by decide)), fun h => f2 (not_k h (by decide)), fun h => f3 (not_k h (by decide)), fun h => f4 (not_k h (by decide)), fun h => f5 (not_k h (by decide)), fun h => f6 (not_k h (by decide)), fun h => f7 (not_k h (by decide)), fun h => p8 (not_k h (by decide)), fun h => getD_set_true (q8 (not_k h (by decide))), fun h h2 => z8 (not_k h (by decide)) (not_k' h2 (by decide)), fun h => c8 (not_k h (by decide)), fun h => p9 (not_k h (by decide)), fun h => getD_set_true (q9 (not_k h (by decide))), fun h h2 => z9 (not_k h (by decide)) (not_k' h2 (by decide)), fun h => c9 (not_k h (by decide)), fun h h2 => n8_9 (not_k h (by decide)) (not_k h2 (by decide))⟩) ?_
              simp only [Act.put, List.setIfInBounds_toArray, List.set_cons_zero, List.set_cons_succ]
            · intro L x W hJ hlt hk hd K' hK
              obtain ⟨x74, x75, x76, x77, x78, x79, x80, x81, x14, x15, g14, g15⟩ := x
              obtain ⟨hS, f0, f1, f2, f3, f4, f5, f6, f7, p8, q8, z8, c8, p9, q9, z9, c9, n8_9⟩ := hJ
              refine ⟨?_⟩
              simp only [Act.put, List.setIfInBounds_toArray, List.set_cons_zero, List.set_cons_succ]
              go_simp
              refine kput (hK (x74, (.pointer (some ⟨w.heap.size, 3, none⟩)), x76, x77, x78, x79, x80, x81, x14, x15, g14, g15) _ ⟨hS, fun h => f0 (not_k h (by decide)), fun _ => rfl, fun h => f2 (not_k h (by decide)), fun h => f3 (not_k h (by decide)), fun h => f4 (not_k h (by decide)), fun h => f5 (not_k h (by decide)), fun h => f6 (not_k h (by decide)), fun h => f7 (not_k h (by decide)), fun h => p8 (not_k h (by decide)), fun h => getD_set_true (q8 (not_k h (by decide))), fun h h2 => z8 (not_k h (by decide)) (not_k' h2 (by decide)), fun h => c8 (not_k h (by decide)), fun h => p9 (not_k h (by decide)), fun h => getD_set_true (q9 (not_k h (by decide))), fun h h2 => z9 (not_k h (by decide)) (not_k' h2 (by decide)), fun h => c9 (not_k h (by decide)), fun h h2 => n8_9 (not_k h (by decide)) (not_k h2 (by decide))⟩) ?_
              simp only [Act.put, List.setIfInBounds_toArray, List.set_cons_zero, List.set_cons_succ]
            · intro L x W hJ hlt hk hd K' hK
              obtain ⟨x74, x75, x76, x77, x78, x79, x80, x81, x14, x15, g14, g15⟩ := x
              obtain ⟨hS, f0, f1, f2, f3, f4, f5, f6, f7, p8, q8, z8, c8, p9, q9, z9, c9, n8_9⟩ := hJ
              have d1 : L.getD 1 false = true := dep_of hd 1 (by rfl)
              obtain rfl := (f1 d1).symm
              have d0 : L.getD 0 false = true := dep_of hd 0 (by rfl)
              obtain rfl := (f0 d0).symm
              refine ⟨?_⟩
              simp only [Act.put, List.setIfInBounds_toArray, List.set_cons_zero, List.set_cons_succ]
              go_simp
              refine kput (hK ((.int .i64 (k : Int)), (.pointer (some ⟨w.heap.size, 3, none⟩)), (.pointer (some ⟨w.heap.size, 3 + k * 2, none⟩)), x77, x78, x79, x80, x81, x14, x15, g14, g15) _ ⟨hS, fun h => f0 (not_k h (by decide)), fun h => f1 (not_k h (by decide)), fun _ => rfl, fun h => f3 (not_k h (by decide)), fun h => f4 (not_k h (by decide)), fun h => f5 (not_k h (by decide)), fun h => f6 (not_k h (by decide)), fun h => f7 (not_k h (by decide)), fun h => p8 (not_k h (by decide)), fun h => getD_set_true (q8 (not_k h (by decide))), fun h h2 => z8 (not_k h (by decide)) (not_k' h2 (by decide)), fun h => c8 (not_k h (by decide)), fun h => p9 (not_k h (by decide)), fun h => getD_set_true (q9 (not_k h (by decide))), fun h h2 => z9 (not_k h (by decide)) (not_k' h2 (by decide)), fun h => c9 (not_k h (by decide)), fun h h2 => n8_9 (not_k h (by decide)) (not_k h2 (by decide))⟩) ?_
              simp only [Act.put, List.setIfInBounds_toArray, List.set_cons_zero, List.set_cons_succ]
            · intro L x W hJ hlt hk hd K' hK
              obtain ⟨x74, x75, x76, x77, x78, x79, x80, x81, x14, x15, g14, g15⟩ := x
              obtain ⟨hS, f0, f1, f2, f3, f4, f5, f6, f7, p8, q8, z8, c8, p9, q9, z9, c9, n8_9⟩ := hJ
              have d2 : L.getD 2 false = true := dep_of hd 2 (by rfl)
              obtain rfl := (f2 d2).symm
              have h0 := hS.cell d0
              have h1 := hS.cell d1
              refine ⟨?_⟩
              simp only [Act.put, List.setIfInBounds_toArray, List.set_cons_zero, List.set_cons_succ]
              go_simp
              refine kput (hK (x74, x75, (.pointer (some ⟨w.heap.size, 3 + k * 2, none⟩)), (.agg #[.bool v1, .string ⟨m1.toArray⟩]), x78, x79, x80, x81, x14, x15, g14, g15) _ ⟨hS, fun h => f0 (not_k h (by decide)), fun h => f1 (not_k h (by decide)), fun h => f2 (not_k h (by decide)), fun _ => rfl, fun h => f4 (not_k h (by decide)), fun h => f5 (not_k h (by decide)), fun h => f6 (not_k h (by decide)), fun h => f7 (not_k h (by decide)), fun h => p8 (not_k h (by decide)), fun h => getD_set_true (q8 (not_k h (by decide))), fun h h2 => z8 (not_k h (by decide)) (not_k' h2 (by decide)), fun h => c8 (not_k h (by decide)), fun h => p9 (not_k h (by decide)), fun h => getD_set_true (q9 (not_k h (by decide))), fun h h2 => z9 (not_k h (by decide)) (not_k' h2 (by decide)), fun h => c9 (not_k h (by decide)), fun h h2 => n8_9 (not_k h (by decide)) (not_k h2 (by decide))⟩) ?_
              simp only [Act.put, List.setIfInBounds_toArray, List.set_cons_zero, List.set_cons_succ]
            · intro L x W hJ hlt hk hd K' hK
              obtain ⟨x74, x75, x76, x77, x78, x79, x80, x81, x14, x15, g14, g15⟩ := x
              obtain ⟨hS, f0, f1, f2, f3, f4, f5, f6, f7, p8, q8, z8, c8, p9, q9, z9, c9, n8_9⟩ := hJ
              refine ⟨?_⟩
              simp only [Act.put, List.setIfInBounds_toArray, List.set_cons_zero, List.set_cons_succ]
              go_simp
              refine kput (hK (x74, x75, x76, x77, (.int .i64 (k : Int)), x79, x80, x81, x14, x15, g14, g15) _ ⟨hS, fun h => f0 (not_k h (by decide)), fun h => f1 (not_k h (by decide)), fun h => f2 (not_k h (by decide)), fun h => f3 (not_k h (by decide)), fun _ => rfl, fun h => f5 (not_k h (by decide)), fun h => f6 (not_k h (by decide)), fun h => f7 (not_k h (by decide)), fun h => p8 (not_k h (by decide)), fun h => getD_set_true (q8 (not_k h (by decide))), fun h h2 => z8 (not_k h (by decide)) (not_k' h2 (by decide)), fun h => c8 (not_k h (by decide)), fun h => p9 (not_k h (by decide)), fun h => getD_set_true (q9 (not_k h (by decide))), fun h h2 => z9 (not_k h (by decide)) (not_k' h2 (by decide)), fun h => c9 (not_k h (by decide)), fun h h2 => n8_9 (not_k h (by decide)) (not_k h2 (by decide))⟩) ?_
              simp only [Act.put, List.setIfInBounds_toArray, List.set_cons_zero, List.set_cons_succ]
            · intro L x W hJ hlt hk hd K' hK
              obtain ⟨x74, x75, x76, x77, x78, x79, x80, x81, x14, x15, g14, g15⟩ := x
              obtain ⟨hS, f0, f1, f2, f3, f4, f5, f6, f7, p8, q8, z8, c8, p9, q9, z9, c9, n8_9⟩ := hJ
              refine ⟨?_⟩
              simp only [Act.put, List.setIfInBounds_toArray, List.set_cons_zero, List.set_cons_succ]
              go_simp
              refine kput (hK (x74, x75, x76, x77, x78, (.pointer (some ⟨w.heap.size + 1, 3, none⟩)), x80, x81, x14, x15, g14, g15) _ ⟨hS, fun h => f0 (not_k h (by decide)), fun h => f1 (not_k h (by decide)), fun h => f2 (not_k h (by decide)), fun h => f3 (not_k h (by decide)), fun h => f4 (not_k h (by decide)), fun _ => rfl, fun h => f6 (not_k h (by decide)), fun h => f7 (not_k h (by decide)), fun h => p8 (not_k h (by decide)), fun h => getD_set_true (q8 (not_k h (by decide))), fun h h2 => z8 (not_k h (by decide)) (not_k' h2 (by decide)), fun h => c8 (not_k h (by decide)), fun h => p9 (not_k h (by decide)), fun h => getD_set_true (q9 (not_k h (by decide))), fun h h2 => z9 (not_k h (by decide)) (not_k' h2 (by decide)), fun h => c9 (not_k h (by decide)), fun h h2 => n8_9 (not_k h (by decide)) (not_k h2 (by decide))⟩) ?_
              simp only [Act.put, List.setIfInBounds_toArray, List.set_cons_zero, List.set_cons_succ]
            · intro L x W hJ hlt hk hd K' hK
              obtain ⟨x74, x75, x76, x77, x78, x79, x80, x81, x14, x15, g14, g15⟩ := x
              obtain ⟨hS, f0, f1, f2, f3, f4, f5, f6, f7, p8, q8, z8, c8, p9, q9, z9, c9, n8_9⟩ := hJ
              have d5 : L.getD 5 false = true := dep_of hd 5 (by rfl)
              obtain rfl := (f5 d5).symm
              have d4 : L.getD 4 false = true := dep_of hd 4 (by rfl)
              obtain rfl := (f4 d4).symm
              refine ⟨?_⟩
              simp only [Act.put, List.setIfInBounds_toArray, List.set_cons_zero, List.set_cons_succ]
              go_simp
              refine kput (hK (x74, x75, x76, x77, (.int .i64 (k : Int)), (.pointer (some ⟨w.heap.size + 1, 3, none⟩)), (.pointer (some ⟨w.heap.size + 1, 3 + k * 2, none⟩)), x81, x14, x15, g14, g15) _ ⟨hS, fun h => f0 (not_k h (by decide)), fun h => f1 (not_k h (by decide)), fun h => f2 (not_k h (by decide)), fun h => f3 (not_k h (by decide)), fun h => f4 (not_k h (by decide)), fun h => f5 (not_k h (by decide)), fun _ => rfl, fun h => f7 (not_k h (by decide)), fun h => p8 (not_k h (by decide)), fun h => getD_set_true (q8 (not_k h (by decide))), fun h h2 => z8 (not_k h (by decide)) (not_k' h2 (by decide)), fun h => c8 (not_k h (by decide)), fun h => p9 (not_k h (by decide)), fun h => getD_set_true (q9 (not_k h (by decide))), fun h h2 => z9 (not_k h (by decide)) (not_k' h2 (by decide)), fun h => c9 (not_k h (by decide)), fun h h2 => n8_9 (not_k h (by decide)) (not_k h2 (by decide))⟩) ?_
              simp only [Act.put, List.setIfInBounds_toArray, List.set_cons_zero, List.set_cons_succ]
            · intro L x W hJ hlt hk hd K' hK
              obtain ⟨x74, x75, x76, x77, x78, x79, x80, x81, x14, x15, g14, g15⟩ := x
              obtain ⟨hS, f0, f1, f2, f3, f4, f5, f6, f7, p8, q8, z8, c8, p9, q9, z9, c9, n8_9⟩ := hJ
              have d6 : L.getD 6 false = true := dep_of hd 6 (by rfl)
              obtain rfl := (f6 d6).symm
              have h0 := hS.cell e0
              have h1 := hS.cell e1
              refine ⟨?_⟩
              simp only [Act.put, List.setIfInBounds_toArray, List.set_cons_zero, List.set_cons_succ]
              go_simp
              refine kput (hK (x74, x75, x76, x77, x78, x79, (.pointer (some ⟨w.heap.size + 1, 3 + k * 2, none⟩)), (.agg #[.bool false, .string ⟨m2.toArray⟩]), x14, x15, g14, g15) _ ⟨hS, fun h => f0 (not_k h (by decide)), fun h => f1 (not_k h (by decide)), fun h => f2 (not_k h (by decide)), fun h => f3 (not_k h (by decide)), fun h => f4 (not_k h (by decide)), fun h => f5 (not_k h (by decide)), fun h => f6 (not_k h (by decide)), fun _ => rfl, fun h => p8 (not_k h (by decide)), fun h => getD_set_true (q8 (not_k h (by decide))), fun h h2 => z8 (not_k h (by decide)) (not_k' h2 (by decide)), fun h => c8 (not_k h (by decide)), fun h => p9 (not_k h (by decide)), fun h => getD_set_true (q9 (not_k h (by decide))), fun h h2 => z9 (not_k h (by decide)) (not_k' h2 (by decide)), fun h => c9 (not_k h (by decide)), fun h h2 => n8_9 (not_k h (by decide)) (not_k h2 (by decide))⟩) ?_
              simp only [Act.put, List.setIfInBounds_toArray, List.set_cons_zero, List.set_cons_succ]
            · intro L x W hJ hlt hk hd K' hK
              obtain ⟨x74, x75, x76, x77, x78, x79, x80, x81, x14, x15, g14, g15⟩ := x
              obtain ⟨hS, f0, f1, f2, f3, f4, f5, f6, f7, p8, q8, z8, c8, p9, q9, z9, c9, n8_9⟩ := hJ
              refine ⟨?_⟩
              simp only [Act.put, List.setIfInBounds_toArray, List.set_cons_zero, List.set_cons_succ]
              go_simp
              have hb : Since W (W.alloc (.cells #[.bool false, .string ⟨#[]⟩] 26)) := (Since.refl _).alloc _
              refine kput (hK (x74, x75, x76, x77, x78, x79, x80, x81, (.pointer (some ⟨W.heap.size, 0, none⟩)), x15, W.heap.size, g15) _ ⟨hS.trans hb, fun h => f0 (not_k h (by decide)), fun h => f1 (not_k h (by decide)), fun h => f2 (not_k h (by decide)), fun h => f3 (not_k h (by decide)), fun h => f4 (not_k h (by decide)), fun h => f5 (not_k h (by decide)), fun h => f6 (not_k h (by decide)), fun h => f7 (not_k h (by decide)), fun _ => ⟨rfl, hS.size, by simp⟩, fun h => getD_set_true (q8 (not_k h (by decide))), fun _ _ => heap_alloc_new W _, fun h => absurd (q8 (not_k h (by decide))) (by rw [hk]; decide), fun h => ⟨(p9 (not_k h (by decide))).1, (p9 (not_k h (by decide))).2.1, Nat.lt_of_lt_of_le (p9 (not_k h (by decide))).2.2 hb.size⟩, fun h => getD_set_true (q9 (not_k h (by decide))), fun h h2 => (z9 (not_k h (by decide)) (not_k' h2 (by decide))).next hb, fun h => (c9 (not_k h (by decide))).next hb, fun _ h => Nat.ne_of_gt (p9 (not_k h (by decide))).2.2⟩) ?_
              simp only [Act.put, List.setIfInBounds_toArray, List.set_cons_zero, List.set_cons_succ]
            · intro L x W hJ hlt hk hd K' hK
              obtain ⟨x74, x75, x76, x77, x78, x79, x80, x81, x14, x15, g14, g15⟩ := x
              obtain ⟨hS, f0, f1, f2, f3, f4, f5, f6, f7, p8, q8, z8, c8, p9, q9, z9, c9, n8_9⟩ := hJ
              refine ⟨?_⟩
              simp only [Act.put, List.setIfInBounds_toArray, List.set_cons_zero, List.set_cons_succ]
              go_simp
              have hb : Since W (W.alloc (.cells #[.bool false, .string ⟨#[]⟩] 26)) := (Since.refl _).alloc _
              refine kput (hK (x74, x75, x76, x77, x78, x79, x80, x81, x14, (.pointer (some ⟨W.heap.size, 0, none⟩)), g14, W.heap.size) _ ⟨hS.trans hb, fun h => f0 (not_k h (by decide)), fun h => f1 (not_k h (by decide)), fun h => f2 (not_k h (by decide)), fun h => f3 (not_k h (by decide)), fun h => f4 (not_k h (by decide)), fun h => f5 (not_k h (by decide)), fun h => f6 (not_k h (by decide)), fun h => f7 (not_k h (by decide)), fun h => ⟨(p8 (not_k h (by decide))).1, (p8 (not_k h (by decide))).2.1, Nat.lt_of_lt_of_le (p8 (not_k h (by decide))).2.2 hb.size⟩, fun h => getD_set_true (q8 (not_k h (by decide))), fun h h2 => (z8 (not_k h (by decide)) (not_k' h2 (by decide))).next hb, fun h => (c8 (not_k h (by decide))).next hb, fun _ => ⟨rfl, hS.size, by simp⟩, fun h => getD_set_true (q9 (not_k h (by decide))), fun _ _ => heap_alloc_new W _, fun h => absurd (q9 (not_k h (by decide))) (by rw [hk]; decide), fun h _ => Nat.ne_of_lt (p8 (not_k h (by decide))).2.2⟩) ?_
              simp only [Act.put, List.setIfInBounds_toArray, List.set_cons_zero, List.set_cons_succ]
            · intro L x W hJ hlt hk hd K' hK
              obtain ⟨x74, x75, x76, x77, x78, x79, x80, x81, x14, x15, g14, g15⟩ := x
              obtain ⟨hS, f0, f1, f2, f3, f4, f5, f6, f7, p8, q8, z8, c8, p9, q9, z9, c9, n8_9⟩ := hJ
              have d8 : L.getD 8 false = true := dep_of hd 8 (by rfl)
              obtain ⟨rfl, pl8, pg8⟩ := p8 d8
              have d3 : L.getD 3 false = true := dep_of hd 3 (by rfl)
              obtain rfl := (f3 d3).symm
              refine ⟨?_⟩
              simp only [Act.put, List.setIfInBounds_toArray, List.set_cons_zero, List.set_cons_succ]
              refine wp_store_row 26 (.tmp 14) (.tmp 77) rfl g14 #[.bool v1, .string ⟨m1.toArray⟩] rfl rfl 26 #[.bool false, .string ⟨#[]⟩] (z8 d8 hk) tinfo2 rfl (by simp [Value.oneCell']) ?_
              refine kput (hK (x74, x75, x76, (.agg #[.bool v1, .string ⟨m1.toArray⟩]), x78, x79, x80, x81, (.pointer (some ⟨g14, 0, none⟩)), x15, g14, g15) _ ⟨since_setRow hS pl8 _, fun h => f0 (not_k h (by decide)), fun h => f1 (not_k h (by decide)), fun h => f2 (not_k h (by decide)), fun h => f3 (not_k h (by decide)), fun h => f4 (not_k h (by decide)), fun h => f5 (not_k h (by decide)), fun h => f6 (not_k h (by decide)), fun h => f7 (not_k h (by decide)), fun h => ⟨(p8 (not_k h (by decide))).1, (p8 (not_k h (by decide))).2.1, Nat.lt_of_lt_of_eq (p8 (not_k h (by decide))).2.2 (by simp)⟩, fun _ => getD_set_true d8, fun _ h2 => absurd ((set_now hlt).symm.trans h2) (by decide), fun _ => Cel.row (z8 d8 hk) _, fun h => ⟨(p9 (not_k h (by decide))).1, (p9 (not_k h (by decide))).2.1, Nat.lt_of_lt_of_eq (p9 (not_k h (by decide))).2.2 (by simp)⟩, fun h => getD_set_true (q9 (not_k h (by decide))), fun h h2 => (z9 (not_k h (by decide)) (not_k' h2 (by decide))).farRow (fun e => n8_9 d8 (not_k h (by decide)) e.symm) _, fun h => (c9 (not_k h (by decide))).farRow (fun e => n8_9 d8 (q9 (not_k h (by decide))) e.symm) _, fun h h2 => n8_9 (not_k h (by decide)) (not_k h2 (by decide))⟩) ?_
              simp only [Act.put, List.setIfInBounds_toArray, List.set_cons_zero, List.set_cons_succ]
            · intro L x W hJ hlt hk hd K' hK
              obtain ⟨x74, x75, x76, x77, x78, x79, x80, x81, x14, x15, g14, g15⟩ := x
              obtain ⟨hS, f0, f1, f2, f3, f4, f5, f6, f7, p8, q8, z8, c8, p9, q9, z9, c9, n8_9⟩ := hJ
              have d9 : L.getD 9 false = true := dep_of hd 9 (by rfl)
              obtain ⟨rfl, pl9, pg9⟩ := p9 d9
              have d7 : L.getD 7 false = true := dep_of hd 7 (by rfl)
              obtain rfl := (f7 d7).symm
              refine ⟨?_⟩
              simp only [Act.put, List.setIfInBounds_toArray, List.set_cons_zero, List.set_cons_succ]
              refine wp_store_row 26 (.tmp 15) (.tmp 81) rfl g15 #[.bool false, .string ⟨m2.toArray⟩] rfl rfl 26 #[.bool false, .string ⟨#[]⟩] (z9 d9 hk) tinfo2 rfl (by simp [Value.oneCell']) ?_
              refine kput (hK (x74, x75, x76, x77, x78, x79, x80, (.agg #[.bool false, .string ⟨m2.toArray⟩]), x14, (.pointer (some ⟨g15, 0, none⟩)), g14, g15) _ ⟨since_setRow hS pl9 _, fun h => f0 (not_k h (by decide)), fun h => f1 (not_k h (by decide)), fun h => f2 (not_k h (by decide)), fun h => f3 (not_k h (by decide)), fun h => f4 (not_k h (by decide)), fun h => f5 (not_k h (by decide)), fun h => f6 (not_k h (by decide)), fun h => f7 (not_k h (by decide)), fun h => ⟨(p8 (not_k h (by decide))).1, (p8 (not_k h (by decide))).2.1, Nat.lt_of_lt_of_eq (p8 (not_k h (by decide))).2.2 (by simp)⟩, fun h => getD_set_true (q8 (not_k h (by decide))), fun h h2 => (z8 (not_k h (by decide)) (not_k' h2 (by decide))).farRow (fun e => n8_9 (not_k h (by decide)) d9 e) _, fun h => (c8 (not_k h (by decide))).farRow (fun e => n8_9 (q8 (not_k h (by decide))) d9 e) _, fun h => ⟨(p9 (not_k h (by decide))).1, (p9 (not_k h (by decide))).2.1, Nat.lt_of_lt_of_eq (p9 (not_k h (by decide))).2.2 (by simp)⟩, fun _ => getD_set_true d9, fun _ h2 => absurd ((set_now hlt).symm.trans h2) (by decide), fun _ => Cel.row (z9 d9 hk) _, fun h h2 => n8_9 (not_k h (by decide)) (not_k h2 (by decide))⟩) ?_
              simp only [Act.put, List.setIfInBounds_toArray, List.set_cons_zero, List.set_cons_succ]
          case stop =>
            intro L x W hJ hall
            obtain ⟨x74, x75, x76, x77, x78, x79, x80, x81, x14, x15, g14, g15⟩ := x
            obtain ⟨hS, f0, f1, f2, f3, f4, f5, f6, f7, p8, q8, z8, c8, p9, q9, z9, c9, n8_9⟩ := hJ
            obtain rfl := (f0 (hall 0 (Nat.le_of_ble_eq_true rfl))).symm
            obtain rfl := (f1 (hall 1 (Nat.le_of_ble_eq_true rfl))).symm
            obtain rfl := (f2 (hall 2 (Nat.le_of_ble_eq_true rfl))).symm
            obtain rfl := (f3 (hall 3 (Nat.le_of_ble_eq_true rfl))).symm
            obtain rfl := (f4 (hall 4 (Nat.le_of_ble_eq_true rfl))).symm
            obtain rfl := (f5 (hall 5 (Nat.le_of_ble_eq_true rfl))).symm
            obtain rfl := (f6 (hall 6 (Nat.le_of_ble_eq_true rfl))).symm
            obtain rfl := (f7 (hall 7 (Nat.le_of_ble_eq_true rfl))).symm
            obtain ⟨rfl, pl8, pg8⟩ := p8 (hall 8 (Nat.le_of_ble_eq_true rfl))
            have cc8 := c8 (hall 10 (Nat.le_of_ble_eq_true rfl))
            obtain ⟨rfl, pl9, pg9⟩ := p9 (hall 9 (Nat.le_of_ble_eq_true rfl))
            have cc9 := c9 (hall 11 (Nat.le_of_ble_eq_true rfl))
            have nn8_9 := n8_9 (hall 8 (Nat.le_of_ble_eq_true rfl)) (hall 9 (Nat.le_of_ble_eq_true rfl))
            clear f0 f1 f2 f3 f4 f5 f6 f7 p8 q8 z8 c8 p9 q9 z9 c9 n8_9 hall
            simp only [Act.put, List.setIfInBounds_toArray, List.set_cons_zero, List.set_cons_succ]
            have hX := Lib.hid cc8
            have hY := Lib.hid cc9
            have hS9 := hS
            have HX2 := hX.out.two
            obtain ⟨x0, x1⟩ := HX2
            obtain ⟨y0, y1⟩ := hY.out.two
            have hSq := hSo.trans hS9
            have hV2 := Lib.hid (hV.out.next hS9)
            have hl6 : l.length ≤ 1000 := by have := hL.out; omega
            clear d0 d1 e0 e1 hV
            cases v1
            · simp only [Bool.false_eq_true, if_false] at hres
              by_cases he : ((false, m1) : Tm) = (false, m2)
              · obtain rfl : m1 = m2 := congrArg Prod.snd he
                rw [if_pos rfl] at hres
                go_wp2_with fail
                go_roundw
                case rel => exact ⟨k + 1, l, by omega, by go_num, hSq, hV2.out, hI.out, by show _ ≤ _; have := hL.out; omega, hres⟩
                case measure => simp [intOf]; omega
              · have hq := eqT_ne he
                have HR2 : Hid (R = none) := by
                  show _ = _
                  rw [hres.out, if_neg he]
                clear hres
                go_wp2_with fail
                go_ret2
                exact ⟨_, _, rfl, hSw.trans hSq, by rw [HR2.out]; exact ⟨rfl, rfl⟩⟩
            · simp only [if_true] at hres
              have HGT := Lib.hid (rget_any u12 l m1 W hV2.out.1 (by omega))
              cases hg : getB l m1 with
              | none =>
                rw [hg] at HGT hres
                simp only [gtV] at HGT
                simp only at hres
                have HBD := Lib.hid (fun W' (h : Since W W') => rbind_const u12 l m1 m2 W' (hV2.out.1.next h) hI.out hl6 hnm.1 hnm.2 hg)
                have hIB := Lib.hid (hI.out.bind (v := m1) (x := (false, m2)) ⟨hnm.1, hnm.2, hg, rfl, by simp⟩)
                go_wp2_with fail
                refine HGT.out.mono ?_
                rintro e w10 ⟨rfl, hb⟩
                have hb2 := hb.alloc (.cells #[.bool false, .string ⟨#[]⟩] 26)
                obtain ⟨x0, x1⟩ := (hX.out.next hb2).two
                obtain ⟨y0, y1⟩ := (hY.out.next hb2).two
                clear hb
                go_wp2_with fail
                refine (HBD.out _ hb2).mono ?_
                rintro e w11 ⟨v11, rfl, hv11, hb⟩
                have hS11 := (hSq.trans hb2).trans hb
                clear hb
                go_wp2_with fail
                go_roundw
                case rel => exact ⟨k + 1, bindP l m1 (false, m2), by omega, by go_num, hS11, hv11, hIB.out, by show _ ≤ _; rw [bind_len]; have := hL.out; omega, hres⟩
                case measure => simp [intOf]; omega
              | some z =>
                rw [hg] at HGT hres
                obtain ⟨zv, zt⟩ := z
                simp only [gtV] at HGT
                simp only at hres
                go_wp2_with fail
                refine HGT.out.mono ?_
                rintro e w10 ⟨rfl, hb⟩
                have hb2 := hb.alloc (.cells #[.bool zv, .string ⟨zt.toArray⟩] 26)
                obtain ⟨x0, x1⟩ := (hX.out.next hb2).two
                obtain ⟨y0, y1⟩ := (hY.out.next hb2).two
                have KZ : Cel (w10.alloc (.cells #[.bool zv, .string ⟨zt.toArray⟩] 26)) w10.heap.size #[.bool zv, .string ⟨zt.toArray⟩] 26 := heap_alloc_new w10 _
                obtain ⟨z0, z1⟩ := KZ.two
                clear hb
                by_cases he : ((zv, zt) : Tm) = (false, m2)
                · obtain ⟨rfl, rfl⟩ : zv = false ∧ zt = m2 := by injection he with h1 h2; exact ⟨h1, h2⟩
                  rw [if_pos rfl] at hres
                  go_wp2_with fail
                  go_roundw
                  case rel => exact ⟨k + 1, l, by omega, by go_num, hSq.trans hb2, hV2.out.next hb2, hI.out, by show _ ≤ _; have := hL.out; omega, hres⟩
                  case measure => simp [intOf]; omega
                · have hq := eqT_ne he
                  have HR2 : Hid (R = none) := by
                    show _ = _
                    rw [hres.out, if_neg he]
                  clear hres
                  go_wp2_with fail
                  go_ret2
                  exact ⟨_, _, rfl, (hSw.trans hSq).trans hb2, by rw [HR2.out]; exact ⟨rfl, rfl⟩⟩
        · have hlt2 : ¬ (k : Int) < (n : Int) := by omega
          have HR2 : Hid (R = some l) := by
            show _ = _
            rw [hres.out, List.drop_eq_nil_of_le (by omega)]; rfl
          clear hres
          go_wp2_with fail
          go_ret2
          exact ⟨_, _, rfl, hSw.trans hSo, by rw [HR2.out]; exact ⟨rfl, hV.out⟩⟩
set_option maxHeartbeats 4000000 in
set_option maxRecDepth 100000 in
theorem rextend_no (v0 : Value) (l0 : List Bnd) (a_s a_p : List UInt8) (a_n : Int) (a_v0 a_v1 a_v2 a_v3 : Bool) (a_l0 a_l1 a_l2 a_l3 : List UInt8) (b_s b_p : List UInt8) (b_n : Int) (b_v0 b_v1 b_v2 b_v3 : Bool) (b_l0 b_l1 b_l2 b_l3 : List UInt8) (h : ¬ (a_s = b_s ∧ a_p = b_p ∧ a_n = b_n)) (w : World) (hv : RowS w v0 l0) (hl : bndN l0) (hll : l0.length ≤ 500) :
    Calls Tryz.prog 76 #[v0, .agg #[.string ⟨a_s.toArray⟩, .string ⟨a_p.toArray⟩, .int .i64 a_n, .bool a_v0, .string ⟨a_l0.toArray⟩, .bool a_v1, .string ⟨a_l1.toArray⟩, .bool a_v2, .string ⟨a_l2.toArray⟩, .bool a_v3, .string ⟨a_l3.toArray⟩], .agg #[.string ⟨b_s.toArray⟩, .string ⟨b_p.toArray⟩, .int .i64 b_n, .bool b_v0, .string ⟨b_l0.toArray⟩, .bool b_v1, .string ⟨b_l1.toArray⟩, .bool b_v2, .string ⟨b_l2.toArray⟩, .bool b_v3, .string ⟨b_l3.toArray⟩]] w (MatchP none w) := by
  obtain ⟨va, vc, rfl⟩ := hv.1.form
  have HAL := Lib.hid (fun W => alike_no a_s a_p a_n a_v0 a_v1 a_v2 a_v3 a_l0 a_l1 a_l2 a_l3 b_s b_p b_n b_v0 b_v1 b_v2 b_v3 b_l0 b_l1 b_l2 b_l3 h W)
  clear h
  have hS : Since w ((w.alloc (.cells #[.string ⟨a_s.toArray⟩, .string ⟨a_p.toArray⟩, .int .i64 a_n, .bool a_v0, .string ⟨a_l0.toArray⟩, .bool a_v1, .string ⟨a_l1.toArray⟩, .bool a_v2, .string ⟨a_l2.toArray⟩, .bool a_v3, .string ⟨a_l3.toArray⟩] 29)).alloc (.cells #[.string ⟨b_s.toArray⟩, .string ⟨b_p.toArray⟩, .int .i64 b_n, .bool b_v0, .string ⟨b_l0.toArray⟩, .bool b_v1, .string ⟨b_l1.toArray⟩, .bool b_v2, .string ⟨b_l2.toArray⟩, .bool b_v3, .string ⟨b_l3.toArray⟩] 29)) := ((Since.refl _).alloc _).alloc _
  have a_B : Box ((w.alloc (.cells #[.string ⟨a_s.toArray⟩, .string ⟨a_p.toArray⟩, .int .i64 a_n, .bool a_v0, .string ⟨a_l0.toArray⟩, .bool a_v1, .string ⟨a_l1.toArray⟩, .bool a_v2, .string ⟨a_l2.toArray⟩, .bool a_v3, .string ⟨a_l3.toArray⟩] 29)).alloc (.cells #[.string ⟨b_s.toArray⟩, .string ⟨b_p.toArray⟩, .int .i64 b_n, .bool b_v0, .string ⟨b_l0.toArray⟩, .bool b_v1, .string ⟨b_l1.toArray⟩, .bool b_v2, .string ⟨b_l2.toArray⟩, .bool b_v3, .string ⟨b_l3.toArray⟩] 29)) w.heap.size ((a_s, a_p, a_n, (a_v0, a_l0), (a_v1, a_l1), (a_v2, a_l2), (a_v3, a_l3)) : Atm) := (box_new w ((a_s, a_p, a_n, (a_v0, a_l0), (a_v1, a_l1), (a_v2, a_l2), (a_v3, a_l3)) : Atm) _).next ((Since.refl _).alloc _)
  have b_B : Box ((w.alloc (.cells #[.string ⟨a_s.toArray⟩, .string ⟨a_p.toArray⟩, .int .i64 a_n, .bool a_v0, .string ⟨a_l0.toArray⟩, .bool a_v1, .string ⟨a_l1.toArray⟩, .bool a_v2, .string ⟨a_l2.toArray⟩, .bool a_v3, .string ⟨a_l3.toArray⟩] 29)).alloc (.cells #[.string ⟨b_s.toArray⟩, .string ⟨b_p.toArray⟩, .int .i64 b_n, .bool b_v0, .string ⟨b_l0.toArray⟩, .bool b_v1, .string ⟨b_l1.toArray⟩, .bool b_v2, .string ⟨b_l2.toArray⟩, .bool b_v3, .string ⟨b_l3.toArray⟩] 29)) (w.heap.size + 1) ((b_s, b_p, b_n, (b_v0, b_l0), (b_v1, b_l1), (b_v2, b_l2), (b_v3, b_l3)) : Atm) := by
    have := box_new (w.alloc (.cells #[.string ⟨a_s.toArray⟩, .string ⟨a_p.toArray⟩, .int .i64 a_n, .bool a_v0, .string ⟨a_l0.toArray⟩, .bool a_v1, .string ⟨a_l1.toArray⟩, .bool a_v2, .string ⟨a_l2.toArray⟩, .bool a_v3, .string ⟨a_l3.toArray⟩] 29)) ((b_s, b_p, b_n, (b_v0, b_l0), (b_v1, b_l1), (b_v2, b_l2), (b_v3, b_l3)) : Atm) 29
    rwa [World.size_alloc] at this
  obtain ⟨a_c0, a_c1, a_c2, a_c3, a_c4, a_c5, a_c6, a_c7, a_c8, a_c9, a_c10⟩ := a_B.all
  obtain ⟨b_c0, b_c1, b_c2, b_c3, b_c4, b_c5, b_c6, b_c7, b_c8, b_c9, b_c10⟩ := b_B.all
  go_enter Tryz.func76, Tryz.ntmps76
  go_wp2_with fail
  refine (rcheckb_any (.slice va l0.length vc) l0 _ (hv.next hS).1 hl.1 (by omega)).mono ?_
  rintro e w1 ⟨rfl, hb⟩
  replace hS := hS.trans hb
  replace a_B := a_B.next hb; replace a_c0 := hb.cell a_c0; replace a_c1 := hb.cell a_c1; replace a_c2 := hb.cell a_c2; replace a_c3 := hb.cell a_c3; replace a_c4 := hb.cell a_c4; replace a_c5 := hb.cell a_c5; replace a_c6 := hb.cell a_c6; replace a_c7 := hb.cell a_c7; replace a_c8 := hb.cell a_c8; replace a_c9 := hb.cell a_c9; replace a_c10 := hb.cell a_c10; replace b_B := b_B.next hb; replace b_c0 := hb.cell b_c0; replace b_c1 := hb.cell b_c1; replace b_c2 := hb.cell b_c2; replace b_c3 := hb.cell b_c3; replace b_c4 := hb.cell b_c4; replace b_c5 := hb.cell b_c5; replace b_c6 := hb.cell b_c6; replace b_c7 := hb.cell b_c7; replace b_c8 := hb.cell b_c8; replace b_c9 := hb.cell b_c9; replace b_c10 := hb.cell b_c10
  go_wp2_with fail
  refine (HAL.out _).mono ?_
  rintro e w3 ⟨rfl, hb⟩
  replace hS := hS.trans hb
  clear a_c0 a_c1 a_c2 a_c3 a_c4 a_c5 a_c6 a_c7 a_c8 a_c9 a_c10 b_c0 b_c1 b_c2 b_c3 b_c4 b_c5 b_c6 b_c7 b_c8 b_c9 b_c10 a_B b_B
  go_wp2_with fail
  go_ret2
  exact ⟨_, _, rfl, hS, rfl, rfl⟩
theorem rextend_any (a_s a_p : List UInt8) (a_n : Int) (a_v0 a_v1 a_v2 a_v3 : Bool) (a_l0 a_l1 a_l2 a_l3 : List UInt8) (b_s b_p : List UInt8) (b_n : Int) (b_v0 b_v1 b_v2 b_v3 : Bool) (b_l0 b_l1 b_l2 b_l3 : List UInt8) (ka : checkA ((a_s, a_p, a_n, (a_v0, a_l0), (a_v1, a_l1), (a_v2, a_l2), (a_v3, a_l3)) : Atm) = 0) (kb : checkA ((b_s, b_p, b_n, (b_v0, b_l0), (b_v1, b_l1), (b_v2, b_l2), (b_v3, b_l3)) : Atm) = 0) (hg : groundA ((b_s, b_p, b_n, (b_v0, b_l0), (b_v1, b_l1), (b_v2, b_l2), (b_v3, b_l3)) : Atm) = true) (v : Value) (l : List Bnd) (w : World) (hv : RowS w v l) (hl : bndN l) (hll : l.length ≤ 500) :
    Calls Tryz.prog 76 #[v, .agg #[.string ⟨a_s.toArray⟩, .string ⟨a_p.toArray⟩, .int .i64 a_n, .bool a_v0, .string ⟨a_l0.toArray⟩, .bool a_v1, .string ⟨a_l1.toArray⟩, .bool a_v2, .string ⟨a_l2.toArray⟩, .bool a_v3, .string ⟨a_l3.toArray⟩], .agg #[.string ⟨b_s.toArray⟩, .string ⟨b_p.toArray⟩, .int .i64 b_n, .bool b_v0, .string ⟨b_l0.toArray⟩, .bool b_v1, .string ⟨b_l1.toArray⟩, .bool b_v2, .string ⟨b_l2.toArray⟩, .bool b_v3, .string ⟨b_l3.toArray⟩]] w (MatchP (extA l ((a_s, a_p, a_n, (a_v0, a_l0), (a_v1, a_l1), (a_v2, a_l2), (a_v3, a_l3)) : Atm) ((b_s, b_p, b_n, (b_v0, b_l0), (b_v1, b_l1), (b_v2, b_l2), (b_v3, b_l3)) : Atm)) w) := by
  obtain ⟨n, hn, e1, ca⟩ := valid_len ka
  obtain ⟨k, hk, e2, cb⟩ := valid_len kb
  by_cases he : a_s = b_s ∧ a_p = b_p ∧ a_n = b_n
  · have hcc : countA ((a_s, a_p, a_n, (a_v0, a_l0), (a_v1, a_l1), (a_v2, a_l2), (a_v3, a_l3)) : Atm) = countA ((b_s, b_p, b_n, (b_v0, b_l0), (b_v1, b_l1), (b_v2, b_l2), (b_v3, b_l3)) : Atm) := by rw [ca, cb]; have := he.2.2; simp only at e1 e2; omega
    have hnp := named_pairs ka kb hcc
    have hgp := ground_pairs (a := ((a_s, a_p, a_n, (a_v0, a_l0), (a_v1, a_l1), (a_v2, a_l2), (a_v3, a_l3)) : Atm)) hg hcc
    have hu : extA l ((a_s, a_p, a_n, (a_v0, a_l0), (a_v1, a_l1), (a_v2, a_l2), (a_v3, a_l3)) : Atm) ((b_s, b_p, b_n, (b_v0, b_l0), (b_v1, b_l1), (b_v2, b_l2), (b_v3, b_l3)) : Atm) = matchF (pairsA ((a_s, a_p, a_n, (a_v0, a_l0), (a_v1, a_l1), (a_v2, a_l2), (a_v3, a_l3)) : Atm) ((b_s, b_p, b_n, (b_v0, b_l0), (b_v1, b_l1), (b_v2, b_l2), (b_v3, b_l3)) : Atm)) l := by
      unfold extA
      rw [if_pos he]
    rw [hu]
    obtain ⟨h1, h2, h3⟩ := he
    simp only at e1 e2
    subst h1 h2
    obtain rfl : a_n = (n : Int) := e1
    obtain rfl : b_n = (n : Int) := h3.symm
    unfold pairsA at hgp ⊢
    rw [show countA ((a_s, a_p, (n : Int), (a_v0, a_l0), (a_v1, a_l1), (a_v2, a_l2), (a_v3, a_l3)) : Atm) = n from ca] at hnp hgp ⊢
    exact rextend_main v l a_s a_p n a_v0 a_v1 a_v2 a_v3 a_l0 a_l1 a_l2 a_l3 b_v0 b_v1 b_v2 b_v3 b_l0 b_l1 b_l2 b_l3 hn w hv hl hll hnp hgp hg
  · have hu : extA l ((a_s, a_p, a_n, (a_v0, a_l0), (a_v1, a_l1), (a_v2, a_l2), (a_v3, a_l3)) : Atm) ((b_s, b_p, b_n, (b_v0, b_l0), (b_v1, b_l1), (b_v2, b_l2), (b_v3, b_l3)) : Atm) = none := by
      unfold extA
      rw [if_neg he]
    rw [hu]
    exact rextend_no v l a_s a_p a_n a_v0 a_v1 a_v2 a_v3 a_l0 a_l1 a_l2 a_l3 b_s b_p b_n b_v0 b_v1 b_v2 b_v3 b_l0 b_l1 b_l2 b_l3 he w hv hl hll
set_option maxHeartbeats 4000000 in
set_option maxRecDepth 100000 in
theorem rmatch_any (a_s a_p : List UInt8) (a_n : Int) (a_v0 a_v1 a_v2 a_v3 : Bool) (a_l0 a_l1 a_l2 a_l3 : List UInt8) (b_s b_p : List UInt8) (b_n : Int) (b_v0 b_v1 b_v2 b_v3 : Bool) (b_l0 b_l1 b_l2 b_l3 : List UInt8) (ka : checkA ((a_s, a_p, a_n, (a_v0, a_l0), (a_v1, a_l1), (a_v2, a_l2), (a_v3, a_l3)) : Atm) = 0) (kb : checkA ((b_s, b_p, b_n, (b_v0, b_l0), (b_v1, b_l1), (b_v2, b_l2), (b_v3, b_l3)) : Atm) = 0) (hg : groundA ((b_s, b_p, b_n, (b_v0, b_l0), (b_v1, b_l1), (b_v2, b_l2), (b_v3, b_l3)) : Atm) = true) (w : World) :
    Calls Tryz.prog 75 #[.agg #[.string ⟨a_s.toArray⟩, .string ⟨a_p.toArray⟩, .int .i64 a_n, .bool a_v0, .string ⟨a_l0.toArray⟩, .bool a_v1, .string ⟨a_l1.toArray⟩, .bool a_v2, .string ⟨a_l2.toArray⟩, .bool a_v3, .string ⟨a_l3.toArray⟩], .agg #[.string ⟨b_s.toArray⟩, .string ⟨b_p.toArray⟩, .int .i64 b_n, .bool b_v0, .string ⟨b_l0.toArray⟩, .bool b_v1, .string ⟨b_l1.toArray⟩, .bool b_v2, .string ⟨b_l2.toArray⟩, .bool b_v3, .string ⟨b_l3.toArray⟩]] w (MatchP (extA [] ((a_s, a_p, a_n, (a_v0, a_l0), (a_v1, a_l1), (a_v2, a_l2), (a_v3, a_l3)) : Atm) ((b_s, b_p, b_n, (b_v0, b_l0), (b_v1, b_l1), (b_v2, b_l2), (b_v3, b_l3)) : Atm)) w) := by
  have HX := Lib.hid (fun W => rextend_any a_s a_p a_n a_v0 a_v1 a_v2 a_v3 a_l0 a_l1 a_l2 a_l3 b_s b_p b_n b_v0 b_v1 b_v2 b_v3 b_l0 b_l1 b_l2 b_l3 ka kb hg (.slice none 0 0) [] W ⟨RowOf.nil, .inl ⟨rfl, rfl⟩⟩ bndN.nil (by simp))
  obtain ⟨R, hR⟩ : ∃ R, Hid (R = extA [] ((a_s, a_p, a_n, (a_v0, a_l0), (a_v1, a_l1), (a_v2, a_l2), (a_v3, a_l3)) : Atm) ((b_s, b_p, b_n, (b_v0, b_l0), (b_v1, b_l1), (b_v2, b_l2), (b_v3, b_l3)) : Atm)) := ⟨_, rfl⟩
  rw [← hR.out] at HX ⊢
  have hS : Since w ((w.alloc (.cells #[.string ⟨a_s.toArray⟩, .string ⟨a_p.toArray⟩, .int .i64 a_n, .bool a_v0, .string ⟨a_l0.toArray⟩, .bool a_v1, .string ⟨a_l1.toArray⟩, .bool a_v2, .string ⟨a_l2.toArray⟩, .bool a_v3, .string ⟨a_l3.toArray⟩] 29)).alloc (.cells #[.string ⟨b_s.toArray⟩, .string ⟨b_p.toArray⟩, .int .i64 b_n, .bool b_v0, .string ⟨b_l0.toArray⟩, .bool b_v1, .string ⟨b_l1.toArray⟩, .bool b_v2, .string ⟨b_l2.toArray⟩, .bool b_v3, .string ⟨b_l3.toArray⟩] 29)) := ((Since.refl _).alloc _).alloc _
  have a_B : Box ((w.alloc (.cells #[.string ⟨a_s.toArray⟩, .string ⟨a_p.toArray⟩, .int .i64 a_n, .bool a_v0, .string ⟨a_l0.toArray⟩, .bool a_v1, .string ⟨a_l1.toArray⟩, .bool a_v2, .string ⟨a_l2.toArray⟩, .bool a_v3, .string ⟨a_l3.toArray⟩] 29)).alloc (.cells #[.string ⟨b_s.toArray⟩, .string ⟨b_p.toArray⟩, .int .i64 b_n, .bool b_v0, .string ⟨b_l0.toArray⟩, .bool b_v1, .string ⟨b_l1.toArray⟩, .bool b_v2, .string ⟨b_l2.toArray⟩, .bool b_v3, .string ⟨b_l3.toArray⟩] 29)) w.heap.size ((a_s, a_p, a_n, (a_v0, a_l0), (a_v1, a_l1), (a_v2, a_l2), (a_v3, a_l3)) : Atm) := (box_new w ((a_s, a_p, a_n, (a_v0, a_l0), (a_v1, a_l1), (a_v2, a_l2), (a_v3, a_l3)) : Atm) _).next ((Since.refl _).alloc _)
  have b_B : Box ((w.alloc (.cells #[.string ⟨a_s.toArray⟩, .string ⟨a_p.toArray⟩, .int .i64 a_n, .bool a_v0, .string ⟨a_l0.toArray⟩, .bool a_v1, .string ⟨a_l1.toArray⟩, .bool a_v2, .string ⟨a_l2.toArray⟩, .bool a_v3, .string ⟨a_l3.toArray⟩] 29)).alloc (.cells #[.string ⟨b_s.toArray⟩, .string ⟨b_p.toArray⟩, .int .i64 b_n, .bool b_v0, .string ⟨b_l0.toArray⟩, .bool b_v1, .string ⟨b_l1.toArray⟩, .bool b_v2, .string ⟨b_l2.toArray⟩, .bool b_v3, .string ⟨b_l3.toArray⟩] 29)) (w.heap.size + 1) ((b_s, b_p, b_n, (b_v0, b_l0), (b_v1, b_l1), (b_v2, b_l2), (b_v3, b_l3)) : Atm) := by
    have := box_new (w.alloc (.cells #[.string ⟨a_s.toArray⟩, .string ⟨a_p.toArray⟩, .int .i64 a_n, .bool a_v0, .string ⟨a_l0.toArray⟩, .bool a_v1, .string ⟨a_l1.toArray⟩, .bool a_v2, .string ⟨a_l2.toArray⟩, .bool a_v3, .string ⟨a_l3.toArray⟩] 29)) ((b_s, b_p, b_n, (b_v0, b_l0), (b_v1, b_l1), (b_v2, b_l2), (b_v3, b_l3)) : Atm) 29
    rwa [World.size_alloc] at this
  obtain ⟨a_c0, a_c1, a_c2, a_c3, a_c4, a_c5, a_c6, a_c7, a_c8, a_c9, a_c10⟩ := a_B.all
  obtain ⟨b_c0, b_c1, b_c2, b_c3, b_c4, b_c5, b_c6, b_c7, b_c8, b_c9, b_c10⟩ := b_B.all
  clear ka kb hg hR
  go_enter Tryz.func75, Tryz.ntmps75
  go_wp2_with fail
  refine (HX.out _).mono ?_
  rintro e w1 ⟨v, r, rfl, hb, hv⟩
  clear a_c0 a_c1 a_c2 a_c3 a_c4 a_c5 a_c6 a_c7 a_c8 a_c9 a_c10 b_c0 b_c1 b_c2 b_c3 b_c4 b_c5 b_c6 b_c7 b_c8 b_c9 b_c10 a_B b_B
  go_wp2_with fail
  go_ret2
  exact ⟨_, _, rfl, hS.trans hb, hv⟩
end Go.Proofs.YtdlnmkdbjgbimaaGreatDoor
