/- Package cert: join, text, name: what bytes they answer. -/
import Derived.Test.YtkdeokgkjmboeaaGreatDoorCertP
import Derived.Test.YtkdeokgkjmboeaaGreatDoorCertNumW
namespace Go.Proofs.YtkdeokgkjmboeaaGreatDoor
open Go.RowKit

set_option maxHeartbeats 400000 in
theorem cj_any (v : Value) (L : List (List UInt8)) (w : World) (h : Row w v L.length (L.map strV)) (hm : L.length ≤ 1000) (hl : L.flatten.length ≤ 100000) :
    Calls Tryz.prog 41 #[v] w fun e w' => e = .returned (.string ⟨L.flatten.toArray⟩) ∧ w = w' := by
  obtain ⟨a, c, rfl⟩ := h.len
  have HR := Lib.hid h
  clear h
  obtain ⟨R, hR⟩ : ∃ R, Hid (R = L.flatten) := ⟨_, rfl⟩
  rw [← hR.out] at hl ⊢
  go_enter Tryz.func41, Tryz.ntmps41
  go_wp2_with fail
  go_loop [2, 7] (fun o i => ∃ (k : Nat) (acc : List UInt8), k ≤ L.length ∧ i = .int .i64 k ∧ o = .string ⟨acc.toArray⟩ ∧ acc.length ≤ 100000 ∧ Hid (R = acc ++ (L.drop k).flatten)) (fun _ i => L.length - (intOf i).toNat)
  case atStart => exact ⟨0, [], by omega, rfl, rfl, by simp, hR.out⟩
  case round =>
    obtain ⟨k, acc, hk, rfl, rfl, hacc, hres⟩ := hrel
    by_cases hlt : k < L.length
    · obtain ⟨b, o, c', he, hc, hcells⟩ := HR.out.some (by omega)
      cases he
      have d := hcells k (by simpa using hlt)
      simp only [List.getElem_map, strV] at d
      have hres' : R = (acc ++ L[k]) ++ (L.drop (k + 1)).flatten := by
        rw [hres.out, List.drop_eq_getElem_cons hlt, List.flatten_cons, List.append_assoc]
      have hlen : acc.length + L[k].length ≤ 100000 := by
        have := congrArg List.length hres'
        rw [List.length_append, List.length_append] at this
        omega
      have HN := Lib.hid hres'
      clear hcells hres hres'
      generalize L[k] = x at *
      have c1 := cat_bytes acc x
      go_wp2_with fail
      go_round
      case rel => exact ⟨k + 1, acc ++ x, by omega, by go_num, rfl, by simp; omega, HN.out⟩
      case measure => simp [intOf]; omega
    · obtain rfl : k = L.length := by omega
      go_wp2_with fail
      go_ret
      refine ⟨ret_str ?_, rfl⟩
      rw [hres.out, List.drop_length]; simp
/-- A new row of two, of three texts. -/
theorem row2_new (w : World) (a b : List UInt8) (ty : TypeId) : Row (w.alloc (.cells #[.string ⟨a.toArray⟩, .string ⟨b.toArray⟩] ty)) (.slice (some ⟨w.heap.size, 0, none⟩) 2 2) ([a, b] : List (List UInt8)).length (([a, b] : List (List UInt8)).map strV) := by
  refine .inr ⟨w.heap.size, 0, 2, rfl, Nat.le_refl _, fun j hj => ?_⟩
  rw [Nat.zero_add, World.cell?_alloc_new]
  have hj3 : j < 2 := hj
  match j, hj3 with
  | 0, _ => rfl
  | 1, _ => rfl
theorem row3_new (w : World) (a b c : List UInt8) (ty : TypeId) : Row (w.alloc (.cells #[.string ⟨a.toArray⟩, .string ⟨b.toArray⟩, .string ⟨c.toArray⟩] ty)) (.slice (some ⟨w.heap.size, 0, none⟩) 3 3) ([a, b, c] : List (List UInt8)).length (([a, b, c] : List (List UInt8)).map strV) := by
  refine .inr ⟨w.heap.size, 0, 3, rfl, Nat.le_refl _, fun j hj => ?_⟩
  rw [Nat.zero_add, World.cell?_alloc_new]
  have hj3 : j < 3 := hj
  match j, hj3 with
  | 0, _ => rfl
  | 1, _ => rfl
  | 2, _ => rfl
theorem cj2_any (a b c : List UInt8) (hc : c = a ++ b) (w : World) (ty : TypeId) (hl : c.length ≤ 100000) :
    Calls Tryz.prog 41 #[.slice (some ⟨w.heap.size, 0, none⟩) 2 2] (w.alloc (.cells #[.string ⟨a.toArray⟩, .string ⟨b.toArray⟩] ty)) fun e w' => e = .returned (.string ⟨c.toArray⟩) ∧ w.alloc (.cells #[.string ⟨a.toArray⟩, .string ⟨b.toArray⟩] ty) = w' := by
  have e : ([a, b] : List (List UInt8)).flatten = c := by rw [hc]; simp
  have := cj_any _ [a, b] _ (row2_new w a b ty) (by simp) (by rw [e]; exact hl)
  rwa [e] at this
theorem cj3_any (a b c d : List UInt8) (hd : d = a ++ (b ++ c)) (w : World) (ty : TypeId) (hl : d.length ≤ 100000) :
    Calls Tryz.prog 41 #[.slice (some ⟨w.heap.size, 0, none⟩) 3 3] (w.alloc (.cells #[.string ⟨a.toArray⟩, .string ⟨b.toArray⟩, .string ⟨c.toArray⟩] ty)) fun e w' => e = .returned (.string ⟨d.toArray⟩) ∧ w.alloc (.cells #[.string ⟨a.toArray⟩, .string ⟨b.toArray⟩, .string ⟨c.toArray⟩] ty) = w' := by
  have e : ([a, b, c] : List (List UInt8)).flatten = d := by rw [hd]; simp
  have := cj_any _ [a, b, c] _ (row3_new w a b c ty) (by simp) (by rw [e]; exact hl)
  rwa [e] at this

theorem text_any (s : List UInt8) (w : World) (hs : s.length ≤ 10000) :
    Calls Tryz.prog 42 #[.string ⟨s.toArray⟩] w fun e w' => e = .returned (.string ⟨(textB s).toArray⟩) ∧ Since w w' := by
  have hw : IntKind.u32.wrap (s.length : Int) = (s.length : Int) := IntWalk.u32_in _ (by omega)
  have HN := Lib.hid (fun w => number_any s.length w (by omega))
  obtain ⟨X, hX⟩ : ∃ X, Hid (X = numL s.length) := ⟨_, rfl⟩
  have hl : (textB s).length ≤ 100000 := by have := @textB_le s; omega
  have hT : textB s = X ++ s := by rw [hX.out]; rfl
  rw [← hX.out] at HN
  generalize textB s = T at *
  have HJ := Lib.hid (fun w ty => cj2_any X s T hT w ty hl)
  clear hT hX
  go_enter Tryz.func42, Tryz.ntmps42
  go_wp2_with fail
  refine (HN.out _).mono ?_
  rintro e w1 ⟨rfl, hb⟩
  go_wp2_with fail
  refine (HJ.out _ _).mono ?_
  rintro e w2 ⟨rfl, rfl⟩
  go_wp2_with fail
  go_ret
  exact ⟨rfl, hb.alloc _⟩
theorem name_any (v : Bool) (l : List UInt8) (w : World) (hs : l.length ≤ 1000) :
    Calls Tryz.prog 44 #[.agg #[.bool v, .string ⟨l.toArray⟩]] w fun e w' => e = .returned (.string ⟨(nameB (v, l)).toArray⟩) ∧ Since w w' := by
  have HT := Lib.hid (fun w => text_any l w (by omega))
  have hl : (nameB (v, l)).length ≤ 100000 := by
    have := @nameB_le (v, l)
    have h : (v, l).2.length = l.length := rfl
    omega
  have hN : nameB (v, l) = markB v ++ textB l := rfl
  generalize nameB (v, l) = T at *
  generalize textB l = X at *
  cases v
  all_goals
    have HJ := Lib.hid (fun w ty => cj2_any _ X T hN w ty hl)
    clear hN
    go_enter Tryz.func44, Tryz.ntmps44
    go_wp2_with fail
    refine (HT.out _).mono ?_
    rintro e w1 ⟨rfl, hb⟩
    go_wp2_with fail
    refine (HJ.out _ _).mono ?_
    rintro e w2 ⟨rfl, rfl⟩
    go_wp2_with fail
    go_ret
    exact ⟨rfl, (((Since.refl _).alloc _).trans hb).alloc _⟩
end Go.Proofs.YtkdeokgkjmboeaaGreatDoor
