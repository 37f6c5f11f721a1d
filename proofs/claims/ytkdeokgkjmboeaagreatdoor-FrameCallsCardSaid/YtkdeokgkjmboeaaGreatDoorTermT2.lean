/- term.Text: the text of every atom whose names have at most 300 bytes. -/
import Derived.Test.YtkdeokgkjmboeaaGreatDoorTermN
namespace Go.Proofs.YtkdeokgkjmboeaaGreatDoor
open Go.RowKit

theorem after_says : (32 : UInt8) = 32 := rfl
/-- An atom's text. -/
def frontA (a : Atm) : List UInt8 := a.1 ++ ([32, 115, 97, 121, 115, 32] ++ a.2.1)
def namesOf (a : Atm) : List (List UInt8) := ((argsL a).take (countA a)).map (·.2)
def textA (a : Atm) : List UInt8 := frontA a ++ if countA a = 0 then [] else [40] ++ (Lib.join (namesOf a) [44, 32] ++ [41])
/-- Names of at most 300 bytes. -/
def Light (a : Atm) : Prop := a.1.length ≤ 300 ∧ a.2.1.length ≤ 300 ∧ ∀ t ∈ argsL a, t.2.length ≤ 300

theorem join_len (sep : List UInt8) : ∀ (xs : List (List UInt8)) (m : Nat), (∀ x ∈ xs, x.length ≤ m) → (Lib.join xs sep).length ≤ xs.length * (m + sep.length)
  | [], _, _ => by simp [Lib.join, List.intercalate]
  | [x], m, h => by
    have := h x (by simp)
    simp [Lib.join, List.intercalate]; omega
  | x :: y :: r, m, h => by
    have h1 := h x (by simp)
    have h2 := join_len sep (y :: r) m (fun z hz => h z (by simp [hz]))
    have e : Lib.join (x :: y :: r) sep = x ++ (sep ++ Lib.join (y :: r) sep) := by
      simp [Lib.join, List.intercalate]
    rw [e, List.length_append, List.length_append, List.length_cons, Nat.succ_mul]
    omega

/-- strings.Join at texts, wherever they lie. -/
theorem join_any (v : Value) (L : List (List UInt8)) (sep : List UInt8) (w : World) (h : Row w v L.length (L.map strV)) (hm : L.length ≤ 100000) (hl : (Lib.join L sep).length ≤ 1000000) :
    Calls Tryz.prog 39 #[v, .string ⟨sep.toArray⟩] w fun e w' => e = .returned (.string ⟨(Lib.join L sep).toArray⟩) ∧ Since w w' := by
  by_cases h0 : 0 < L.length
  · obtain ⟨b, o, c, rfl, hc, hcell⟩ := h.some h0
    have e : (L.map fun l => ByteArray.mk l.toArray).map (fun x => x.data.toList) = L := by
      rw [List.map_map]
      have : ((fun x : ByteArray => x.data.toList) ∘ fun l : List UInt8 => ByteArray.mk l.toArray) = id := rfl
      rw [this, List.map_id]
    have hk := Tryz.strings_Join b o c (L.map fun l => ByteArray.mk l.toArray) ⟨sep.toArray⟩ w (by
      intro j x hj
      rw [List.getElem?_map, Option.map_eq_some_iff] at hj
      obtain ⟨y, hy, rfl⟩ := hj
      obtain ⟨hj', rfl⟩ := List.getElem?_eq_some_iff.1 hy
      have := hcell j (by simpa using hj')
      rw [this]
      simp [strV]) (by
      have := World.block_lt_of_cell? w _ (hcell 0 (by simpa using h0))
      exact this) (by rw [List.length_map]; omega) (by rw [List.length_map]; exact hc) (by rw [e]; show (Lib.join L sep).length ≤ _; omega)
    rw [e, List.length_map] at hk
    exact hk.mono fun _ _ he => he
  · have hn : L = [] := List.eq_nil_of_length_eq_zero (by omega)
    subst hn
    obtain ⟨a, c, rfl⟩ := h.len
    refine (Tryz.strings_Join_none a c ⟨sep.toArray⟩ w).mono fun e w' he => ⟨?_, ?_⟩
    · rw [he.1]; rfl
    · rw [he.2]; exact Since.refl _

set_option maxHeartbeats 1000000 in
set_option maxRecDepth 100000 in
theorem ttext_any (a_s a_p : List UInt8) (a_n : Int) (a_v0 a_v1 a_v2 a_v3 : Bool) (a_l0 a_l1 a_l2 a_l3 : List UInt8) (w : World) (hL : Light ((a_s, a_p, a_n, (a_v0, a_l0), (a_v1, a_l1), (a_v2, a_l2), (a_v3, a_l3)) : Atm)) :
    Calls Tryz.prog 91 #[.agg #[.string ⟨a_s.toArray⟩, .string ⟨a_p.toArray⟩, .int .i64 a_n, .bool a_v0, .string ⟨a_l0.toArray⟩, .bool a_v1, .string ⟨a_l1.toArray⟩, .bool a_v2, .string ⟨a_l2.toArray⟩, .bool a_v3, .string ⟨a_l3.toArray⟩]] w fun e w' => e = .returned (.string ⟨(textA ((a_s, a_p, a_n, (a_v0, a_l0), (a_v1, a_l1), (a_v2, a_l2), (a_v3, a_l3)) : Atm)).toArray⟩) ∧ Since w w' := by
  obtain ⟨i0, hi, hz0, hz1, hz2⟩ := info_parts infoStr
  have HI := Lib.hid (And.intro hi (And.intro hz0 (And.intro hz1 hz2)))
  clear hi hz0 hz1 hz2
  have hS : Since w (w.alloc (.cells #[.string ⟨a_s.toArray⟩, .string ⟨a_p.toArray⟩, .int .i64 a_n, .bool a_v0, .string ⟨a_l0.toArray⟩, .bool a_v1, .string ⟨a_l1.toArray⟩, .bool a_v2, .string ⟨a_l2.toArray⟩, .bool a_v3, .string ⟨a_l3.toArray⟩] 26)) := (Since.refl _).alloc _
  have HA := Lib.hid (fun w => targs_any a_s a_p a_n a_v0 a_v1 a_v2 a_v3 a_l0 a_l1 a_l2 a_l3 w)
  obtain ⟨f1, f2, f3⟩ := hL
  have f1' : a_s.length ≤ 300 := f1
  have f2' : a_p.length ≤ 300 := f2
  obtain ⟨L, hLL⟩ : ∃ L, Hid (L = (argsL ((a_s, a_p, a_n, (a_v0, a_l0), (a_v1, a_l1), (a_v2, a_l2), (a_v3, a_l3)) : Atm)).take (countA ((a_s, a_p, a_n, (a_v0, a_l0), (a_v1, a_l1), (a_v2, a_l2), (a_v3, a_l3)) : Atm))) := ⟨_, rfl⟩
  obtain ⟨n, hn⟩ : ∃ n, Hid (n = countA ((a_s, a_p, a_n, (a_v0, a_l0), (a_v1, a_l1), (a_v2, a_l2), (a_v3, a_l3)) : Atm)) := ⟨_, rfl⟩
  obtain ⟨F, hF⟩ : ∃ F, Hid (F = frontA ((a_s, a_p, a_n, (a_v0, a_l0), (a_v1, a_l1), (a_v2, a_l2), (a_v3, a_l3)) : Atm)) := ⟨_, rfl⟩
  obtain ⟨U, hU⟩ : ∃ U, Hid (U = a_s ++ [32, 115, 97, 121, 115, 32]) := ⟨a_s ++ [32, 115, 97, 121, 115, 32], rfl⟩
  have c1 : ByteArray.mk a_s.toArray ++ ByteArray.mk #[32, 115, 97, 121, 115, 32] = ByteArray.mk U.toArray := by rw [hU.out]; exact cat_bytes a_s [32, 115, 97, 121, 115, 32]
  have c2 : ByteArray.mk U.toArray ++ ByteArray.mk a_p.toArray = ByteArray.mk F.toArray := by rw [hU.out, hF.out, cat_bytes, frontA, List.append_assoc]
  have hUl : U.length ≤ 400 := by rw [hU.out]; simp; omega
  have hFl : F.length ≤ 800 := by
    rw [hF.out]; show (a_s ++ ([32, 115, 97, 121, 115, 32] ++ a_p)).length ≤ 800
    simp; omega
  have hLn : L.length = n := by rw [hLL.out, List.length_take, argsL_len, ← hn.out]; have := countA_le ((a_s, a_p, a_n, (a_v0, a_l0), (a_v1, a_l1), (a_v2, a_l2), (a_v3, a_l3)) : Atm); rw [← hn.out] at this; omega
  have hn4 : n ≤ 4 := by rw [hn.out]; exact countA_le _
  have hL3 : Hid (∀ t ∈ L, t.2.length ≤ 300) := by intro t ht; rw [hLL.out] at ht; exact f3 t (List.mem_of_mem_take ht)
  have hT : Hid (textA ((a_s, a_p, a_n, (a_v0, a_l0), (a_v1, a_l1), (a_v2, a_l2), (a_v3, a_l3)) : Atm) = F ++ if n = 0 then [] else [40] ++ (Lib.join (L.map (·.2)) [44, 32] ++ [41])) := by
    show _ = _
    rw [textA, namesOf, ← hLL.out, ← hn.out, ← hF.out]
  rw [← hLL.out, ← hn.out] at HA
  have HLN := Lib.hid hLn
  clear hLn f1 f2 f3
  by_cases h0 : n = 0
  · subst h0
    have hT2 : textA ((a_s, a_p, a_n, (a_v0, a_l0), (a_v1, a_l1), (a_v2, a_l2), (a_v3, a_l3)) : Atm) = F := by rw [hT.out, if_pos rfl, List.append_nil]
    rw [hT2]
    clear hT2
    go_enter Tryz.func91, Tryz.ntmps91
    go_wp2_with fail
    refine (HA.out _).mono ?_
    rintro e w1 ⟨rfl, hrow, hb⟩
    go_wp2_with fail
    go_ret
    exact ⟨rfl, hS.trans hb⟩
  · have hne : ((n : Int) == 0) = false := by rw [beq_eq_false_iff_ne]; omega
    obtain ⟨J, hJ⟩ : ∃ J, Hid (J = Lib.join (L.map (·.2)) [44, 32]) := ⟨_, rfl⟩
    obtain ⟨X, hX⟩ : ∃ X, Hid (X = F ++ [40]) := ⟨F ++ [40], rfl⟩
    obtain ⟨Y, hY⟩ : ∃ Y, Hid (Y = X ++ J) := ⟨_, rfl⟩
    obtain ⟨Z, hZ⟩ : ∃ Z, Hid (Z = Y ++ [41]) := ⟨Y ++ [41], rfl⟩
    have hT2 : textA ((a_s, a_p, a_n, (a_v0, a_l0), (a_v1, a_l1), (a_v2, a_l2), (a_v3, a_l3)) : Atm) = Z := by rw [hT.out, if_neg h0, hZ.out, hY.out, hX.out, hJ.out]; simp
    have c3 : ByteArray.mk F.toArray ++ ByteArray.mk #[40] = ByteArray.mk X.toArray := by rw [hX.out]; exact cat_bytes F [40]
    have c4 : ByteArray.mk X.toArray ++ ByteArray.mk J.toArray = ByteArray.mk Y.toArray := by rw [hY.out]; exact cat_bytes X J
    have c5 : ByteArray.mk Y.toArray ++ ByteArray.mk #[41] = ByteArray.mk Z.toArray := by rw [hZ.out]; exact cat_bytes Y [41]
    have hJl : J.length ≤ 10000 := by
      rw [hJ.out]
      have := join_len [44, 32] (L.map (·.2)) 300 (by intro x hx; obtain ⟨t, ht, rfl⟩ := List.mem_map.1 hx; exact hL3.out t ht)
      rw [List.length_map, HLN.out] at this
      have h5 : n * (300 + [(44 : UInt8), 32].length) ≤ 4 * 302 := Nat.mul_le_mul hn4 (by decide)
      omega
    have hXl : X.length ≤ 1000 := by rw [hX.out]; simp; omega
    have hYl : Y.length ≤ 20000 := by rw [hY.out]; simp; omega
    rw [hT2]
    clear hT2
    go_enter Tryz.func91, Tryz.ntmps91
    go_wp2_with fail
    refine (HA.out _).mono ?_
    rintro e w1 ⟨rfl, hrow, hb⟩
    rw [World.size_alloc] at hrow
    have hS1 := hS.trans hb
    clear HA hb hS
    go_wp2_with fail
    clear c1 c2
    go_loopw [5, 7, 22] (fun v _ i wr => ∃ (k : Nat) (acc : List (List UInt8)), k ≤ n ∧ i = .int .i64 k ∧ acc.length ≤ k ∧ wr.ownsRow w1.heap.size 9 1 v acc.length (acc.map strV) ∧ Since w1 wr ∧ Hid (acc = (L.take k).map (·.2))) (fun _ _ i _ => n - (intOf i).toNat)
    case atStart => exact ⟨0, [], by omega, rfl, by simp, ⟨rfl, .inl ⟨rfl, rfl⟩⟩, Since.refl _, rfl⟩
    case round =>
      obtain ⟨k, acc, hk, rfl, hacc, hown, hSr, hres⟩ := hrel
      by_cases hlt : k < n
      · have hkL : k < L.length := by rw [HLN.out]; exact hlt
        obtain ⟨d1, d2⟩ := tmRow_at (hrow.next hSr) k hkL
        have hnx : Hid (acc ++ [L[k].2] = (L.take (k + 1)).map (·.2)) := by
          show _ = _
          rw [hres.out, List.take_succ_eq_append_getElem hkL, List.map_append]; rfl
        have hsz := hSr.size
        clear hne h0
        generalize L[k] = t at *
        obtain ⟨tv, tl⟩ := t
        go_wp2_with (at_builtin; refine wpList_append_own _ rfl (.tmp 26) (.tmp 29) 61 rfl w1.heap.size 9 i0 (.string ByteArray.empty) 1 16 Tryz.underlying61 HI.out.1 HI.out.2.1 HI.out.2.2.1 HI.out.2.2.2 rfl (by decide) _ acc.length (acc.map strV) rfl ((hown.alloc _).alloc _) ⟨wr.heap.size + 1, 0, none⟩ 1 1 [.string ⟨tl.toArray⟩] rfl rfl (one_new2 _ _ _ _) ?c1 ?c2 ?c3 ?c4 ?_)
        case c1 => simp [Value.oneCell']
        case c2 => unfold maxLen; omega
        case c3 => omega
        case c4 => first | omega | (simp; omega)
        intro v' w1' hown' hgrow _
        have hB1 : Since w1 w1' := Below.grown ((hSr.alloc _).alloc _) hgrow (by simp; omega) (own_ge hown)
        clear hown hgrow hSr hres
        go_wp2_with fail
        go_roundw
        case rel => exact ⟨k + 1, acc ++ [tl], by omega, by go_num, by simp; omega, by simpa [strV] using hown', hB1, hnx⟩
        case measure => simp [intOf]; omega
      · obtain rfl : k = n := by omega
        have hacc2 : acc = L.map (·.2) := by rw [hres.out, List.take_of_length_le (by rw [HLN.out]; omega)]
        have hJ2 : J = Lib.join acc [44, 32] := by rw [hJ.out, hacc2]
        have HJJ := Lib.hid (join_any _ acc [44, 32] wr (row_of_own hown) (by omega) (by rw [← hJ2]; omega))
        rw [← hJ2] at HJJ
        clear hown hne h0 hlt hrow hacc2 hJ2
        go_wp2_with fail
        refine HJJ.out.mono ?_
        rintro e w5 ⟨rfl, hb5⟩
        go_wp2_with fail
        go_ret
        exact ⟨rfl, (hS1.trans hSr).trans hb5⟩
end Go.Proofs.YtkdeokgkjmboeaaGreatDoor
