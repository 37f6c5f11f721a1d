/- The reference of layer 3: names, Vars, Consts, Said, Text: what they answer at every atom. -/
import Derived.Test.YtbgdljcgbhhfdaaGreatDoorTermP
import Derived.Test.YtbgdljcgbhhfdaaGreatDoorEq
import Derived.Deep.RegionHeld3
namespace Go.Proofs.YtbgdljcgbhhfdaaGreatDoor
open Go.RowKit
attribute [local go_sem ↓] run_termEq'

theorem own_since {w w' : World} {base : Nat} {e : TypeId} {size : Nat} {v : Value} {n : Nat} {xs : List Value} (h : w.ownsRow base e size v n xs) (hs : Since w w') : w'.ownsRow base e size v n xs := by
  obtain ⟨hl, h | ⟨g, cap, cur, hv, hgb, hg, r⟩⟩ := h
  · exact ⟨hl, .inl h⟩
  · exact ⟨hl, .inr ⟨g, cap, cur, hv, hgb, (Below.block hs g ((Array.getElem?_eq_some_iff.1 hg).1)).trans hg, r⟩⟩
theorem any_eqT (L : List Tm) (t : Tm) : (L.any fun u => eqT u t) = L.contains t := by
  rw [Bool.eq_iff_iff, List.any_eq_true, List.contains_iff_mem]
  constructor
  · rintro ⟨u, hu, he⟩
    rw [eqT_iff] at he
    rw [← he]; exact hu
  · intro h; exact ⟨t, h, eqT_self t⟩

set_option maxHeartbeats 4000000 in
set_option maxRecDepth 100000 in
theorem rnames_any (a_s a_p : List UInt8) (a_n : Int) (a_v0 a_v1 a_v2 a_v3 : Bool) (a_l0 a_l1 a_l2 a_l3 : List UInt8) (vars : Bool) (w : World) :
    Calls Tryz.prog 70 #[.agg #[.string ⟨a_s.toArray⟩, .string ⟨a_p.toArray⟩, .int .i64 a_n, .bool a_v0, .string ⟨a_l0.toArray⟩, .bool a_v1, .string ⟨a_l1.toArray⟩, .bool a_v2, .string ⟨a_l2.toArray⟩, .bool a_v3, .string ⟨a_l3.toArray⟩], .bool vars] w (Strs w (namesA ((a_s, a_p, a_n, (a_v0, a_l0), (a_v1, a_l1), (a_v2, a_l2), (a_v3, a_l3)) : Atm) vars)) := by
  obtain ⟨i0, hi, hz0, hz1, hz2⟩ := info_parts infoStr
  have HI := Lib.hid (And.intro hi (And.intro hz0 (And.intro hz1 hz2)))
  clear hi hz0 hz1 hz2
  have hS0 : Since w (w.alloc (.cells #[.string ⟨a_s.toArray⟩, .string ⟨a_p.toArray⟩, .int .i64 a_n, .bool a_v0, .string ⟨a_l0.toArray⟩, .bool a_v1, .string ⟨a_l1.toArray⟩, .bool a_v2, .string ⟨a_l2.toArray⟩, .bool a_v3, .string ⟨a_l3.toArray⟩] 33)) := (Since.refl _).alloc _
  have HW0 : Box (w.alloc (.cells #[.string ⟨a_s.toArray⟩, .string ⟨a_p.toArray⟩, .int .i64 a_n, .bool a_v0, .string ⟨a_l0.toArray⟩, .bool a_v1, .string ⟨a_l1.toArray⟩, .bool a_v2, .string ⟨a_l2.toArray⟩, .bool a_v3, .string ⟨a_l3.toArray⟩] 33)) w.heap.size ((a_s, a_p, a_n, (a_v0, a_l0), (a_v1, a_l1), (a_v2, a_l2), (a_v3, a_l3)) : Atm) := box_new w ((a_s, a_p, a_n, (a_v0, a_l0), (a_v1, a_l1), (a_v2, a_l2), (a_v3, a_l3)) : Atm) _
  obtain ⟨L, hL⟩ : ∃ L, Hid (L = (argsL ((a_s, a_p, a_n, (a_v0, a_l0), (a_v1, a_l1), (a_v2, a_l2), (a_v3, a_l3)) : Atm)).take (countA ((a_s, a_p, a_n, (a_v0, a_l0), (a_v1, a_l1), (a_v2, a_l2), (a_v3, a_l3)) : Atm))) := ⟨_, rfl⟩
  obtain ⟨n, hn⟩ : ∃ n, Hid (n = countA ((a_s, a_p, a_n, (a_v0, a_l0), (a_v1, a_l1), (a_v2, a_l2), (a_v3, a_l3)) : Atm)) := ⟨_, rfl⟩
  obtain ⟨R, hR⟩ : ∃ R, Hid (R = namesA ((a_s, a_p, a_n, (a_v0, a_l0), (a_v1, a_l1), (a_v2, a_l2), (a_v3, a_l3)) : Atm) vars) := ⟨_, rfl⟩
  have hR0 : Hid (R = namesF vars (L.drop 0) []) := by
    show _ = _
    rw [hR.out, namesA, ← hL.out, List.drop_zero]
  have hLn : Hid (L.length = n) := by show _ = _; rw [hL.out, List.length_take, argsL_len, ← hn.out]; have := countA_le ((a_s, a_p, a_n, (a_v0, a_l0), (a_v1, a_l1), (a_v2, a_l2), (a_v3, a_l3)) : Atm); rw [← hn.out] at this; omega
  have hn4 : n ≤ 4 := by rw [hn.out]; exact countA_le _
  have HC := Lib.hid (fun w => rcount_any a_s a_p a_n a_v0 a_v1 a_v2 a_v3 a_l0 a_l1 a_l2 a_l3 w)
  rw [← hn.out] at HC
  rw [← hR.out]
  have HCE : Hid (∀ k, (h : k < L.length) → (w.alloc (.cells #[.string ⟨a_s.toArray⟩, .string ⟨a_p.toArray⟩, .int .i64 a_n, .bool a_v0, .string ⟨a_l0.toArray⟩, .bool a_v1, .string ⟨a_l1.toArray⟩, .bool a_v2, .string ⟨a_l2.toArray⟩, .bool a_v3, .string ⟨a_l3.toArray⟩] 33)).cell? ⟨w.heap.size, 3 + k * 2, none⟩ = some (.bool L[k].1) ∧ (w.alloc (.cells #[.string ⟨a_s.toArray⟩, .string ⟨a_p.toArray⟩, .int .i64 a_n, .bool a_v0, .string ⟨a_l0.toArray⟩, .bool a_v1, .string ⟨a_l1.toArray⟩, .bool a_v2, .string ⟨a_l2.toArray⟩, .bool a_v3, .string ⟨a_l3.toArray⟩] 33)).cell? ⟨w.heap.size, 3 + k * 2 + 1, none⟩ = some (.string ⟨L[k].2.toArray⟩)) := by
    intro k h
    have hk : k < (argsL ((a_s, a_p, a_n, (a_v0, a_l0), (a_v1, a_l1), (a_v2, a_l2), (a_v3, a_l3)) : Atm)).length := by
      have h1 := hLn.out
      show k < 4
      omega
    have h5 := HW0.args.2 k hk
    have e : L[k] = (argsL ((a_s, a_p, a_n, (a_v0, a_l0), (a_v1, a_l1), (a_v2, a_l2), (a_v3, a_l3)) : Atm))[k] := by
      have h6 := hL.out
      subst h6
      rw [List.getElem_take]
    exact ⟨h5.1.trans (by rw [e]), h5.2.trans (by rw [e])⟩
  go_enter Tryz.func70, Tryz.ntmps70
  go_wp2_with fail
  obtain ⟨W, hWW⟩ : ∃ W : World, Hid (W = w.alloc (.cells #[.string ⟨a_s.toArray⟩, .string ⟨a_p.toArray⟩, .int .i64 a_n, .bool a_v0, .string ⟨a_l0.toArray⟩, .bool a_v1, .string ⟨a_l1.toArray⟩, .bool a_v2, .string ⟨a_l2.toArray⟩, .bool a_v3, .string ⟨a_l3.toArray⟩] 33)) := ⟨_, rfl⟩
  rw [← hWW.out] at HW0 hS0 HCE ⊢
  go_loopw [5, 6, 7, 8] (fun v i _ _ wr => ∃ (k : Nat) (acc : List (List UInt8)), k ≤ n ∧ i = .int .i64 k ∧ acc.length ≤ k ∧ wr.ownsRow W.heap.size 9 1 v acc.length (acc.map strV) ∧ Since W wr ∧ Hid (R = namesF vars (L.drop k) acc) ∧ Hid (∀ x, x ∈ acc ↔ ((vars, x) : Tm) ∈ L.take k)) (fun _ i _ _ _ => n - (intOf i).toNat)
  case atStart => exact ⟨0, [], by omega, rfl, by simp, ⟨rfl, .inl ⟨rfl, rfl⟩⟩, Since.refl _, hR0, by intro x; simp⟩
  case round =>
    clear hR0
    obtain ⟨k, acc, hk, rfl, hacc, hown, hSr, hres, hmem⟩ := hrel
    obtain ⟨b0, b1, b2, b3, b4, b5, b6, b7, b8, b9, b10⟩ := (HW0.next hSr).all
    go_wp2_with fail
    refine (HC.out _).mono ?_
    rintro e w4 ⟨rfl, hb4⟩
    clear b0 b1 b2 b3 b4 b5 b6 b7 b8 b9 b10
    have hown4 := own_since hown hb4
    have hS4 := hSr.trans hb4
    clear hown hb4 hSr
    by_cases hlt : k < n
    · have hkL : k < L.length := by rw [hLn.out]; exact hlt
      have hst := List.drop_eq_getElem_cons hkL
      have hres' := hres.out
      rw [hst, namesF] at hres'
      have HRES := Lib.hid hres'
      have hB : Hid (∀ j, j ≤ k → ∀ h : j < L.length, ((L.take (j + 1)).any fun u => eqT u L[k]) = (((L.take j).any fun u => eqT u L[k]) || eqT L[j] L[k])) := by
        intro j _ h
        rw [List.take_succ_eq_append_getElem h, List.any_append]; simp
      have hnx1 : Hid (∀ acc' : List (List UInt8), (∀ x, x ∈ acc' ↔ x ∈ acc ∨ ((vars, x) : Tm) = L[k]) → ∀ x, x ∈ acc' ↔ ((vars, x) : Tm) ∈ L.take (k + 1)) := by
        intro acc' h x
        rw [h x, hmem.out x, List.take_succ_eq_append_getElem hkL, List.mem_append, List.mem_singleton]
      have hcon : Hid (L[k].1 = vars → acc.contains L[k].2 = ((L.take k).any fun u => eqT u L[k])) := by
        intro h
        rw [any_eqT, Bool.eq_iff_iff, List.contains_iff_mem, List.contains_iff_mem, hmem.out, ← h]
      obtain ⟨d3, d4⟩ := HCE.out k hkL
      replace d3 := hS4.cell d3
      replace d4 := hS4.cell d4
      clear hst hres' hres hmem
      have hk4 : (k : Int) < 4 := by omega
      obtain ⟨t, ht⟩ : ∃ t, Hid (t = L[k]) := ⟨L[k], rfl⟩
      rw [← ht.out] at HRES hB hnx1 hcon d3 d4
      obtain ⟨tv, tl⟩ := t
      go_wp2_with fail
      go_loopw [7, 8] (fun th q wq => ∃ j : Nat, j ≤ k ∧ q = .int .i64 j ∧ th = .bool ((L.take j).any fun u => eqT u (tv, tl)) ∧ Since w4 wq) (fun _ q _ => k - (intOf q).toNat)
      case atStart => exact ⟨0, by omega, rfl, rfl, Since.refl _⟩
      case round =>
        obtain ⟨j, hj, rfl, rfl, hSq⟩ := hrel
        have d3q := hSq.cell d3
        have d4q := hSq.cell d4
        by_cases hjl : j < k
        · have hjL : j < L.length := by omega
          obtain ⟨f3, f4⟩ := HCE.out j hjL
          replace f3 := hSq.cell (hS4.cell f3)
          replace f4 := hSq.cell (hS4.cell f4)
          have hb := hB.out j (by omega) hjL
          have HB := Lib.hid hb
          clear hb
          have hj4 : (j : Int) < 4 := by omega
          generalize L[j] = u at *
          obtain ⟨uv, ul⟩ := u
          cases hth : (L.take j).any fun u => eqT u (tv, tl)
          all_goals
            clear d3 d4
            go_wp2_with fail
            go_quiet (fail)
            go_wp2_with fail
            go_roundw
            case rel => exact ⟨j + 1, by omega, by go_num, by rw [HB.out, hth]; rfl, hSq.drewN _⟩
            case measure => simp [intOf]; omega
        · obtain rfl : j = k := by omega
          have hown5 := own_since hown4 hSq
          have hS5 := hS4.trans hSq
          clear d3 d4 hown4 hS4 hSq hj hjl hB HCE
          generalize ((L.take j).any fun u => eqT u (tv, tl)) = B at *
          have hacc4 : acc.length ≤ 4 := by omega
          have hsz := hS5.size
          cases hv : (tv == vars)
          · have hnx : Hid (R = namesF vars (L.drop (j + 1)) acc) := by
              have := HRES.out
              rw [if_neg (by rw [hv]; simp)] at this
              exact this
            have hm2 : Hid (∀ x, x ∈ acc ↔ ((vars, x) : Tm) ∈ L.take (j + 1)) := hnx1.out acc (by
              intro x
              constructor
              · exact .inl
              · rintro (h | h)
                · exact h
                · injection h with h1 _
                  rw [h1] at hv; simp at hv)
            go_wp2_with fail
            go_roundw
            case rel => exact ⟨j + 1, acc, by omega, by go_num, by omega, hown5, hS5, hnx, hm2⟩
            case measure => simp [intOf]; omega
          · have hvv : tv = vars := by simpa using hv
            have hc := hcon.out hvv
            cases B
            · have hnx : Hid (R = namesF vars (L.drop (j + 1)) (acc ++ [tl])) := by
                have := HRES.out
                rw [if_pos (by rw [hv, hc]; rfl)] at this
                exact this
              have hm2 : Hid (∀ x, x ∈ acc ++ [tl] ↔ ((vars, x) : Tm) ∈ L.take (j + 1)) := hnx1.out (acc ++ [tl]) (by
                intro x
                rw [List.mem_append, List.mem_singleton, hvv]; simp)
              clear hc hvv hcon hnx1 HRES
              go_wp2_with (at_builtin; refine wpList_append_own _ rfl (.tmp 43) (.tmp 49) 87 rfl W.heap.size 9 i0 (.string ByteArray.empty) 1 16 Tryz.underlying87 HI.out.1 HI.out.2.1 HI.out.2.2.1 HI.out.2.2.2 rfl (by decide) _ acc.length (acc.map strV) rfl (hown5.alloc _) ⟨wr.heap.size, 0, none⟩ 1 1 [.string ⟨tl.toArray⟩] rfl rfl (cell_one_new _ _ _) ?c1 ?c2 ?c3 ?c4 ?_)
              case c1 => simp [Value.oneCell']
              case c2 => unfold maxLen; omega
              case c3 => omega
              case c4 => simp; omega
              intro v' w1' hown' hgrow _
              have hB1 : Since W w1' := Below.grown (hS5.alloc _) hgrow (by simp; omega) (own_ge hown5)
              clear hown5 hgrow hS5
              go_wp2_with fail
              go_roundw
              case rel => exact ⟨j + 1, acc ++ [tl], by omega, by go_num, by simp; omega, by simpa [strV] using hown', hB1, hnx, hm2⟩
              case measure => simp [intOf]; omega
            · have hnx : Hid (R = namesF vars (L.drop (j + 1)) acc) := by
                have := HRES.out
                rw [if_neg (by rw [hv, hc]; simp)] at this
                exact this
              have hm2 : Hid (∀ x, x ∈ acc ↔ ((vars, x) : Tm) ∈ L.take (j + 1)) := hnx1.out acc (by
                intro x
                constructor
                · exact .inl
                · rintro (h | h)
                  · exact h
                  · injection h with _ h2
                    rw [h2]; exact List.contains_iff_mem.1 hc)
              clear hc hvv hcon hnx1 HRES
              go_wp2_with fail
              go_roundw
              case rel => exact ⟨j + 1, acc, by omega, by go_num, by omega, hown5, hS5, hnx, hm2⟩
              case measure => simp [intOf]; omega
    · go_wp2_with fail
      go_ret
      refine ⟨_, rfl, ?_, hS0.trans hS4⟩
      have : R = acc := by rw [hres.out, List.drop_eq_nil_of_le (by rw [hLn.out]; omega)]; rfl
      rw [this]
      exact own_down hown4 hS0.size

set_option maxHeartbeats 400000 in
theorem rvars_any (a_s a_p : List UInt8) (a_n : Int) (a_v0 a_v1 a_v2 a_v3 : Bool) (a_l0 a_l1 a_l2 a_l3 : List UInt8) (w : World) : Calls Tryz.prog 53 #[.agg #[.string ⟨a_s.toArray⟩, .string ⟨a_p.toArray⟩, .int .i64 a_n, .bool a_v0, .string ⟨a_l0.toArray⟩, .bool a_v1, .string ⟨a_l1.toArray⟩, .bool a_v2, .string ⟨a_l2.toArray⟩, .bool a_v3, .string ⟨a_l3.toArray⟩]] w (Strs w (namesA ((a_s, a_p, a_n, (a_v0, a_l0), (a_v1, a_l1), (a_v2, a_l2), (a_v3, a_l3)) : Atm) true)) := by
  have hS : Since w (w.alloc (.cells #[.string ⟨a_s.toArray⟩, .string ⟨a_p.toArray⟩, .int .i64 a_n, .bool a_v0, .string ⟨a_l0.toArray⟩, .bool a_v1, .string ⟨a_l1.toArray⟩, .bool a_v2, .string ⟨a_l2.toArray⟩, .bool a_v3, .string ⟨a_l3.toArray⟩] 33)) := (Since.refl _).alloc _
  have HN := Lib.hid (fun w => rnames_any a_s a_p a_n a_v0 a_v1 a_v2 a_v3 a_l0 a_l1 a_l2 a_l3 true w)
  go_enter Tryz.func53, Tryz.ntmps53
  go_wp2_with fail
  refine (HN.out _).mono ?_
  rintro e w1 ⟨v, rfl, hown, hb⟩
  go_wp2_with fail
  go_ret
  exact ⟨_, rfl, own_down hown hS.size, hS.trans hb⟩

/-- Two texts joined. -/
theorem run_cat {a b c : ByteArray} (h : a ++ b = c) (hl : a.size + b.size ≤ 1000000) (W : World) : (Op.stringOp .add a b).run Tryz.prog W = .ok (.string c) W := by
  subst h
  exact run_string_add W a b (by omega) (by omega)
/-- An atom's text without who says it. -/
def saidA (a : Atm) : List UInt8 := a.2.1 ++ if countA a = 0 then [] else [40] ++ (Lib.join (namesOf a) [44, 32] ++ [41])
theorem said_text (a : Atm) : textA a = (a.1 ++ [32, 115, 97, 121, 115, 32]) ++ saidA a := by
  rw [textA, saidA, frontA]; simp
/-- What stands of it after k terms. -/
def saidK (p : List UInt8) (L : List Tm) (k : Nat) : List UInt8 := p ++ if k = 0 then [] else [40] ++ Lib.join ((L.take k).map (·.2)) [44, 32]
theorem saidK_0 (p : List UInt8) (L : List Tm) : saidK p L 0 = p := by rw [saidK, if_pos rfl, List.append_nil]
theorem saidK_1 {p : List UInt8} {L : List Tm} (h : 0 < L.length) : saidK p L 1 = (p ++ ([40] : List UInt8)) ++ L[0].2 := by
  rw [saidK, if_neg (by decide), List.take_succ_eq_append_getElem h, List.take_zero, List.nil_append, List.map_cons, List.map_nil, join_one]; simp
theorem saidK_succ {p : List UInt8} {L : List Tm} {k : Nat} (h : k < L.length) (h0 : k ≠ 0) : saidK p L (k + 1) = (saidK p L k ++ [44, 32]) ++ L[k].2 := by
  have hne : (L.take k).map (fun t : Tm => t.2) ≠ [] := by
    intro e
    have := congrArg List.length e
    rw [List.length_map, List.length_take, List.length_nil] at this
    omega
  rw [saidK, saidK, if_neg (by omega), if_neg h0, List.take_succ_eq_append_getElem h, List.map_append, List.map_cons, List.map_nil, join_snoc _ _ hne]
  simp

end Go.Proofs.YtbgdljcgbhhfdaaGreatDoor
