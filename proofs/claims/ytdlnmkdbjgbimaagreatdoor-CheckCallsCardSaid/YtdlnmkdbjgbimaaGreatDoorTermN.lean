/- Package term: Ground, names, Vars, Consts: what they answer at every atom. -/
import Derived.Test.YtdlnmkdbjgbimaaGreatDoorTerm
namespace Go.Proofs.YtdlnmkdbjgbimaaGreatDoor
open Go.RowKit

theorem tmRow_at {W : World} {b o n c : Nat} {L : List Tm} (h : TmRow W (.slice (some ⟨b, o, none⟩) n c) L) : ∀ k, (h : k < L.length) → W.cell? ⟨b, o + k * 2, none⟩ = some (.bool L[k].1) ∧ W.cell? ⟨b, o + k * 2 + 1, none⟩ = some (.string ⟨L[k].2.toArray⟩) := by
  rcases h with ⟨h, _⟩ | ⟨b', o', c', h1, _, h3⟩
  · cases h
  · injection h1 with h1 _ _
    injection h1 with h1
    injection h1 with hb ho _
    subst hb ho
    exact h3
theorem any_ground (L : List Tm) : (!(L.any fun t => t.1)) = L.all fun t => !t.1 := by
  induction L with
  | nil => rfl
  | cons t r ih => rw [List.any_cons, List.all_cons, Bool.not_or, ih]

set_option maxHeartbeats 400000 in
set_option maxRecDepth 100000 in
theorem ground_any (a_s a_p : List UInt8) (a_n : Int) (a_v0 a_v1 a_v2 a_v3 : Bool) (a_l0 a_l1 a_l2 a_l3 : List UInt8) (w : World) (hF : FitsA ((a_s, a_p, a_n, (a_v0, a_l0), (a_v1, a_l1), (a_v2, a_l2), (a_v3, a_l3)) : Atm)) (hE : Env w) :
    Calls Tryz.prog 31 #[.agg #[.string ⟨a_s.toArray⟩, .string ⟨a_p.toArray⟩, .int .i64 a_n, .bool a_v0, .string ⟨a_l0.toArray⟩, .bool a_v1, .string ⟨a_l1.toArray⟩, .bool a_v2, .string ⟨a_l2.toArray⟩, .bool a_v3, .string ⟨a_l3.toArray⟩]] w fun e w' => e = .returned (.bool (groundA ((a_s, a_p, a_n, (a_v0, a_l0), (a_v1, a_l1), (a_v2, a_l2), (a_v3, a_l3)) : Atm))) ∧ Since w w' := by
  have hS : Since w (w.alloc (.cells #[.string ⟨a_s.toArray⟩, .string ⟨a_p.toArray⟩, .int .i64 a_n, .bool a_v0, .string ⟨a_l0.toArray⟩, .bool a_v1, .string ⟨a_l1.toArray⟩, .bool a_v2, .string ⟨a_l2.toArray⟩, .bool a_v3, .string ⟨a_l3.toArray⟩] 29)) := (Since.refl _).alloc _
  have hE0 := hE.next hS
  have HG := Lib.hid (any_ground ((argsL ((a_s, a_p, a_n, (a_v0, a_l0), (a_v1, a_l1), (a_v2, a_l2), (a_v3, a_l3)) : Atm)).take (countA ((a_s, a_p, a_n, (a_v0, a_l0), (a_v1, a_l1), (a_v2, a_l2), (a_v3, a_l3)) : Atm))))
  have HF := Lib.hid hF.2.2
  have HA := Lib.hid (fun w => targs_any a_s a_p a_n a_v0 a_v1 a_v2 a_v3 a_l0 a_l1 a_l2 a_l3 w)
  clear hF hE
  go_enter Tryz.func31, Tryz.ntmps31
  go_wp2_with fail
  refine (HA.out _).mono ?_
  rintro e w1 ⟨rfl, hrow, hb⟩
  rw [World.size_alloc] at hrow
  have hE1 := hE0.next hb
  have HH := Lib.hid (has_var _ _ _ hE1 hrow (fun t ht => HF.out t (List.mem_of_mem_take ht)) (by rw [List.length_take, argsL_len]; omega))
  clear hrow HA
  go_wp2_with fail
  refine HH.out.mono ?_
  rintro e w2 ⟨rfl, hb2⟩
  go_wp2_with fail
  go_ret
  exact ⟨ret_bool HG.out, (hS.trans hb).trans hb2⟩

/-- slices.Contains at texts, wherever they lie. -/
theorem contains_any (v : Value) (L : List (List UInt8)) (x : List UInt8) (w : World) (h : Row w v L.length (L.map strV)) (hm : L.length ≤ 9223372036854775807) :
    Calls Tryz.prog 77 #[v, .string ⟨x.toArray⟩] w fun e w' => e = .returned (.bool (L.contains x)) ∧ w = w' := by
  by_cases h0 : 0 < L.length
  · obtain ⟨b, o, c, rfl, hc, hcell⟩ := h.some h0
    have hk := Tryz.slices_Contains_string b o L.length c (L.map fun l => ByteArray.mk l.toArray) ⟨x.toArray⟩ w (by simp) hm (by
      intro j hj
      have hj' : j < L.length := by simpa using hj
      have := hcell j (by simpa using hj')
      rw [this]
      simp [strV, hj', List.getD_eq_getElem?_getD])
    refine hk.mono fun e w' he => ⟨?_, he.2.symm⟩
    rw [he.1]
    refine ret_bool ?_
    rw [List.take_of_length_le (by simp), Bool.eq_iff_iff, Lib.containsS_iff, List.contains_iff_mem, List.mem_map]
    constructor
    · rintro ⟨a, ha, e⟩
      have : a = x := by simpa using e
      rw [← this]; exact ha
    · intro h; exact ⟨x, h, rfl⟩
  · have hn : L = [] := List.eq_nil_of_length_eq_zero (by omega)
    subst hn
    obtain ⟨a, c, rfl⟩ := h.len
    refine (Tryz.slices_Contains_string_empty a c ⟨x.toArray⟩ w).mono fun e w' he => ⟨?_, he.2.symm⟩
    rw [he.1]; rfl

/-- The names of terms of one sort, each once, in the order of their first occurrence. -/
def namesF (vars : Bool) : List Tm → List (List UInt8) → List (List UInt8)
  | [], acc => acc
  | t :: r, acc => namesF vars r (if (t.1 == vars) && !acc.contains t.2 then acc ++ [t.2] else acc)
def namesA (a : Atm) (vars : Bool) : List (List UInt8) := namesF vars ((argsL a).take (countA a)) []
/-- A result that is a list of texts in new memory. -/
def Strs (w : World) (L : List (List UInt8)) (e : Ending) (w' : World) : Prop := ∃ v, e = .returned v ∧ w'.ownsRow w.heap.size 9 1 v L.length (L.map strV) ∧ Since w w'

theorem infoStr : (Tryz.prog.info? 9).map (fun i => (i.zero, i.size, i.bytes)) = some (some (.string ByteArray.empty), 1, 16) := by kernel_rfl

set_option maxHeartbeats 1000000 in
set_option maxRecDepth 100000 in
theorem names_any (a_s a_p : List UInt8) (a_n : Int) (a_v0 a_v1 a_v2 a_v3 : Bool) (a_l0 a_l1 a_l2 a_l3 : List UInt8) (vars : Bool) (w : World) :
    Calls Tryz.prog 57 #[.agg #[.string ⟨a_s.toArray⟩, .string ⟨a_p.toArray⟩, .int .i64 a_n, .bool a_v0, .string ⟨a_l0.toArray⟩, .bool a_v1, .string ⟨a_l1.toArray⟩, .bool a_v2, .string ⟨a_l2.toArray⟩, .bool a_v3, .string ⟨a_l3.toArray⟩], .bool vars] w (Strs w (namesA ((a_s, a_p, a_n, (a_v0, a_l0), (a_v1, a_l1), (a_v2, a_l2), (a_v3, a_l3)) : Atm) vars)) := by
  obtain ⟨i0, hi, hz0, hz1, hz2⟩ := info_parts infoStr
  have HI := Lib.hid (And.intro hi (And.intro hz0 (And.intro hz1 hz2)))
  clear hi hz0 hz1 hz2
  have hS : Since w (w.alloc (.cells #[.string ⟨a_s.toArray⟩, .string ⟨a_p.toArray⟩, .int .i64 a_n, .bool a_v0, .string ⟨a_l0.toArray⟩, .bool a_v1, .string ⟨a_l1.toArray⟩, .bool a_v2, .string ⟨a_l2.toArray⟩, .bool a_v3, .string ⟨a_l3.toArray⟩] 29)) := (Since.refl _).alloc _
  have HA := Lib.hid (fun w => targs_any a_s a_p a_n a_v0 a_v1 a_v2 a_v3 a_l0 a_l1 a_l2 a_l3 w)
  obtain ⟨L, hL⟩ : ∃ L, Hid (L = (argsL ((a_s, a_p, a_n, (a_v0, a_l0), (a_v1, a_l1), (a_v2, a_l2), (a_v3, a_l3)) : Atm)).take (countA ((a_s, a_p, a_n, (a_v0, a_l0), (a_v1, a_l1), (a_v2, a_l2), (a_v3, a_l3)) : Atm))) := ⟨_, rfl⟩
  obtain ⟨n, hn⟩ : ∃ n, Hid (n = countA ((a_s, a_p, a_n, (a_v0, a_l0), (a_v1, a_l1), (a_v2, a_l2), (a_v3, a_l3)) : Atm)) := ⟨_, rfl⟩
  obtain ⟨R, hR⟩ : ∃ R, Hid (R = namesA ((a_s, a_p, a_n, (a_v0, a_l0), (a_v1, a_l1), (a_v2, a_l2), (a_v3, a_l3)) : Atm) vars) := ⟨_, rfl⟩
  have hR0 : Hid (R = namesF vars (L.drop 0) []) := by
    show _ = _
    rw [hR.out, namesA, ← hL.out, List.drop_zero]
  have hLn : L.length = n := by rw [hL.out, List.length_take, argsL_len, ← hn.out]; have := countA_le ((a_s, a_p, a_n, (a_v0, a_l0), (a_v1, a_l1), (a_v2, a_l2), (a_v3, a_l3)) : Atm); rw [← hn.out] at this; omega
  have hn4 : n ≤ 4 := by rw [hn.out]; exact countA_le _
  rw [← hL.out, ← hn.out] at HA
  rw [← hR.out]
  have HLN := Lib.hid hLn
  clear hLn
  go_enter Tryz.func57, Tryz.ntmps57
  go_wp2_with fail
  refine (HA.out _).mono ?_
  rintro e w1 ⟨rfl, hrow, hb⟩
  rw [World.size_alloc] at hrow
  have hS1 := hS.trans hb
  clear HA hb hS
  go_wp2_with fail
  go_loopw [5, 7, 11] (fun v _ i wr => ∃ (k : Nat) (acc : List (List UInt8)), k ≤ n ∧ i = .int .i64 k ∧ acc.length ≤ k ∧ wr.ownsRow w1.heap.size 9 1 v acc.length (acc.map strV) ∧ Since w1 wr ∧ Hid (R = namesF vars (L.drop k) acc)) (fun _ _ i _ => n - (intOf i).toNat)
  case atStart => exact ⟨0, [], by omega, rfl, by simp, ⟨rfl, .inl ⟨rfl, rfl⟩⟩, Since.refl _, hR0⟩
  case round =>
    clear hR0
    obtain ⟨k, acc, hk, rfl, hacc, hown, hSr, hres⟩ := hrel
    by_cases hlt : k < n
    · have hkL : k < L.length := by rw [HLN.out]; exact hlt
      obtain ⟨d1, d2⟩ := tmRow_at (hrow.next hSr) k hkL
      have hst := List.drop_eq_getElem_cons hkL
      have hres' := hres.out
      rw [hst, namesF] at hres'
      have HRES := Lib.hid hres'
      clear hst hres' hres
      generalize L[k] = t at *
      obtain ⟨tv, tl⟩ := t
      have hacc4 : acc.length ≤ 4 := by omega
      have hsz := hSr.size
      have hrowA := (row_of_own hown).next ((Since.refl wr).alloc (.cells #[.bool tv, .string ⟨tl.toArray⟩] 26))
      have HC := Lib.hid (contains_any _ acc tl _ hrowA (by omega))
      clear hrowA
      cases hv : (tv == vars)
      · have hnx : Hid (R = namesF vars (L.drop (k + 1)) acc) := by
          have := HRES.out
          rw [if_neg (by rw [hv]; simp)] at this
          exact this
        go_wp2_with fail
        go_roundw
        case rel => exact ⟨k + 1, acc, by omega, by go_num, by omega, hown.alloc _, hSr.alloc _, hnx⟩
        case measure => simp [intOf]; omega
      · cases hc : acc.contains tl
        · have hnx : Hid (R = namesF vars (L.drop (k + 1)) (acc ++ [tl])) := by
            have := HRES.out
            rw [if_pos (by rw [hv, hc]; rfl)] at this
            exact this
          rw [hc] at HC
          clear hc
          go_wp2_with fail
          refine HC.out.mono ?_
          rintro e w4 ⟨rfl, rfl⟩
          go_wp2_with (at_builtin; refine wpList_append_own _ rfl (.tmp 26) (.tmp 29) 78 rfl w1.heap.size 9 i0 (.string ByteArray.empty) 1 16 Tryz.underlying78 HI.out.1 HI.out.2.1 HI.out.2.2.1 HI.out.2.2.2 rfl (by decide) _ acc.length (acc.map strV) rfl ((hown.alloc _).alloc _) ⟨wr.heap.size + 1, 0, none⟩ 1 1 [.string ⟨tl.toArray⟩] rfl rfl (one_new2 _ _ _ _) ?c1 ?c2 ?c3 ?c4 ?_)
          case c1 => simp [Value.oneCell']
          case c2 => unfold maxLen; omega
          case c3 => omega
          case c4 => simp; omega
          intro v' w1' hown' hgrow _
          have hB1 : Since w1 w1' := Below.grown ((hSr.alloc _).alloc _) hgrow (by simp; omega) (own_ge hown)
          clear hown hgrow HC hSr
          go_wp2_with fail
          go_roundw
          case rel => exact ⟨k + 1, acc ++ [tl], by omega, by go_num, by simp; omega, by simpa [strV] using hown', hB1, hnx⟩
          case measure => simp [intOf]; omega
        · have hnx : Hid (R = namesF vars (L.drop (k + 1)) acc) := by
            have := HRES.out
            rw [if_neg (by rw [hv, hc]; simp)] at this
            exact this
          rw [hc] at HC
          clear hc
          go_wp2_with fail
          refine HC.out.mono ?_
          rintro e w4 ⟨rfl, rfl⟩
          go_wp2_with fail
          go_roundw
          case rel => exact ⟨k + 1, acc, by omega, by go_num, by omega, hown.alloc _, hSr.alloc _, hnx⟩
          case measure => simp [intOf]; omega
    · go_wp2_with fail
      go_ret
      refine ⟨_, rfl, ?_, hS1.trans hSr⟩
      have : R = acc := by rw [hres.out, List.drop_eq_nil_of_le (by rw [HLN.out]; omega)]; rfl
      rw [this]
      exact own_down hown hS1.size

set_option maxHeartbeats 400000 in
theorem vars_any (a_s a_p : List UInt8) (a_n : Int) (a_v0 a_v1 a_v2 a_v3 : Bool) (a_l0 a_l1 a_l2 a_l3 : List UInt8) (w : World) : Calls Tryz.prog 42 #[.agg #[.string ⟨a_s.toArray⟩, .string ⟨a_p.toArray⟩, .int .i64 a_n, .bool a_v0, .string ⟨a_l0.toArray⟩, .bool a_v1, .string ⟨a_l1.toArray⟩, .bool a_v2, .string ⟨a_l2.toArray⟩, .bool a_v3, .string ⟨a_l3.toArray⟩]] w (Strs w (namesA ((a_s, a_p, a_n, (a_v0, a_l0), (a_v1, a_l1), (a_v2, a_l2), (a_v3, a_l3)) : Atm) true)) := by
  have hS : Since w (w.alloc (.cells #[.string ⟨a_s.toArray⟩, .string ⟨a_p.toArray⟩, .int .i64 a_n, .bool a_v0, .string ⟨a_l0.toArray⟩, .bool a_v1, .string ⟨a_l1.toArray⟩, .bool a_v2, .string ⟨a_l2.toArray⟩, .bool a_v3, .string ⟨a_l3.toArray⟩] 29)) := (Since.refl _).alloc _
  have HN := Lib.hid (fun w => names_any a_s a_p a_n a_v0 a_v1 a_v2 a_v3 a_l0 a_l1 a_l2 a_l3 true w)
  go_enter Tryz.func42, Tryz.ntmps42
  go_wp2_with fail
  refine (HN.out _).mono ?_
  rintro e w1 ⟨v, rfl, hown, hb⟩
  go_wp2_with fail
  go_ret
  exact ⟨_, rfl, own_down hown hS.size, hS.trans hb⟩

end Go.Proofs.YtdlnmkdbjgbimaaGreatDoor
