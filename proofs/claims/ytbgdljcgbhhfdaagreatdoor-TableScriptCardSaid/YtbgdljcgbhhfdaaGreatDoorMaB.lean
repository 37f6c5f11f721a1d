/- Package match: alike, Extend, Match: at a valid pattern, and any atom. -/
import Derived.Test.YtbgdljcgbhhfdaaGreatDoorUniAH
import Derived.Test.YtbgdljcgbhhfdaaGreatDoorTerm
import Derived.Test.YtbgdljcgbhhfdaaGreatDoorTermN
import Derived.Test.YtbgdljcgbhhfdaaGreatDoorEq
import Derived.WalkMore
namespace Go.Proofs.YtbgdljcgbhhfdaaGreatDoor
open Go.RowKit
attribute [local go_sem ↓] run_termEq'

theorem own_emptyB (w : World) : (w.alloc (.cells #[] 102)).ownsRow w.heap.size 102 3 (.slice (some ⟨w.heap.size, 0, none⟩) 0 0) 0 [] :=
  ⟨by simp, .inr ⟨w.heap.size, 0, #[], rfl, Nat.le_refl _, heap_alloc_new w _, Nat.le_refl _, Nat.zero_le _, by simp, by simp⟩⟩
theorem uni_pairs {a b : Atm} {n : Nat} (hn : n ≤ 4) {k : Nat} (hk : k < n) : ∃ h : k < (((argsL a).zip (argsL b)).take n).length, ∃ h1 : k < (argsL a).length, ∃ h2 : k < (argsL b).length, (((argsL a).zip (argsL b)).take n)[k]'h = ((argsL a)[k]'h1, (argsL b)[k]'h2) := by
  have hl : (((argsL a).zip (argsL b)).take n).length = n := by rw [List.length_take, List.length_zip, argsL_len, argsL_len]; omega
  refine ⟨by rw [hl]; exact hk, by rw [argsL_len]; omega, by rw [argsL_len]; omega, ?_⟩
  rw [List.getElem_take, List.getElem_zip]
theorem pairs_len (a b : Atm) {n : Nat} (hn : n ≤ 4) : (((argsL a).zip (argsL b)).take n).length = n := by
  rw [List.length_take, List.length_zip, argsL_len, argsL_len]; omega
theorem valid_len {a : Atm} (h : checkA a = 0) : ∃ n : Nat, n ≤ 4 ∧ a.2.2.1 = (n : Int) ∧ countA a = n := by
  have := checkA_range h
  refine ⟨a.2.2.1.toNat, by omega, by omega, ?_⟩
  unfold countA
  omega
theorem named_pairs {a b : Atm} (ha : checkA a = 0) (hb : checkA b = 0) (hn : countA a = countA b) : NamedP (((argsL a).zip (argsL b)).take (countA a)) := by
  obtain ⟨L, hL, ea, _⟩ := valid_pad ha
  obtain ⟨M, hM, eb, _⟩ := valid_pad hb
  have ca : countA a = L.length := by rw [ea]; exact pad_count hL.1
  have cb : countA b = M.length := by rw [eb]; exact pad_count hM.1
  have e : ((argsL a).zip (argsL b)).take (countA a) = L.zip M := by
    rw [List.zip, List.take_zipWith]
    have h1 : (argsL a).take (countA a) = L := by rw [ea]; exact pad_take hL.1
    have h2 : (argsL b).take (countA a) = M := by rw [hn, eb]; exact pad_take hM.1
    rw [h1, h2]
  rw [e]
  exact named_zip hL hM
set_option maxHeartbeats 2000000 in
set_option maxRecDepth 100000 in
theorem malike_yes (s p : List UInt8) (n : Nat) (a_v0 a_v1 a_v2 a_v3 : Bool) (a_l0 a_l1 a_l2 a_l3 : List UInt8) (b_v0 b_v1 b_v2 b_v3 : Bool) (b_l0 b_l1 b_l2 b_l3 : List UInt8) (hn : n ≤ 4) (w : World) :
    Calls Tryz.prog 72 #[.agg #[.string ⟨s.toArray⟩, .string ⟨p.toArray⟩, .int .i64 (n : Int), .bool a_v0, .string ⟨a_l0.toArray⟩, .bool a_v1, .string ⟨a_l1.toArray⟩, .bool a_v2, .string ⟨a_l2.toArray⟩, .bool a_v3, .string ⟨a_l3.toArray⟩], .agg #[.string ⟨s.toArray⟩, .string ⟨p.toArray⟩, .int .i64 (n : Int), .bool b_v0, .string ⟨b_l0.toArray⟩, .bool b_v1, .string ⟨b_l1.toArray⟩, .bool b_v2, .string ⟨b_l2.toArray⟩, .bool b_v3, .string ⟨b_l3.toArray⟩]] w fun e w' => e = .returned (.bool true) ∧ Since w w' := by
  have hS : Since w ((w.alloc (.cells #[.string ⟨s.toArray⟩, .string ⟨p.toArray⟩, .int .i64 (n : Int), .bool a_v0, .string ⟨a_l0.toArray⟩, .bool a_v1, .string ⟨a_l1.toArray⟩, .bool a_v2, .string ⟨a_l2.toArray⟩, .bool a_v3, .string ⟨a_l3.toArray⟩] 33)).alloc (.cells #[.string ⟨s.toArray⟩, .string ⟨p.toArray⟩, .int .i64 (n : Int), .bool b_v0, .string ⟨b_l0.toArray⟩, .bool b_v1, .string ⟨b_l1.toArray⟩, .bool b_v2, .string ⟨b_l2.toArray⟩, .bool b_v3, .string ⟨b_l3.toArray⟩] 33)) := ((Since.refl _).alloc _).alloc _
  have a_B : Box ((w.alloc (.cells #[.string ⟨s.toArray⟩, .string ⟨p.toArray⟩, .int .i64 (n : Int), .bool a_v0, .string ⟨a_l0.toArray⟩, .bool a_v1, .string ⟨a_l1.toArray⟩, .bool a_v2, .string ⟨a_l2.toArray⟩, .bool a_v3, .string ⟨a_l3.toArray⟩] 33)).alloc (.cells #[.string ⟨s.toArray⟩, .string ⟨p.toArray⟩, .int .i64 (n : Int), .bool b_v0, .string ⟨b_l0.toArray⟩, .bool b_v1, .string ⟨b_l1.toArray⟩, .bool b_v2, .string ⟨b_l2.toArray⟩, .bool b_v3, .string ⟨b_l3.toArray⟩] 33)) w.heap.size ((s, p, (n : Int), (a_v0, a_l0), (a_v1, a_l1), (a_v2, a_l2), (a_v3, a_l3)) : Atm) := (box_new w ((s, p, (n : Int), (a_v0, a_l0), (a_v1, a_l1), (a_v2, a_l2), (a_v3, a_l3)) : Atm) _).next ((Since.refl _).alloc _)
  have b_B : Box ((w.alloc (.cells #[.string ⟨s.toArray⟩, .string ⟨p.toArray⟩, .int .i64 (n : Int), .bool a_v0, .string ⟨a_l0.toArray⟩, .bool a_v1, .string ⟨a_l1.toArray⟩, .bool a_v2, .string ⟨a_l2.toArray⟩, .bool a_v3, .string ⟨a_l3.toArray⟩] 33)).alloc (.cells #[.string ⟨s.toArray⟩, .string ⟨p.toArray⟩, .int .i64 (n : Int), .bool b_v0, .string ⟨b_l0.toArray⟩, .bool b_v1, .string ⟨b_l1.toArray⟩, .bool b_v2, .string ⟨b_l2.toArray⟩, .bool b_v3, .string ⟨b_l3.toArray⟩] 33)) (w.heap.size + 1) ((s, p, (n : Int), (b_v0, b_l0), (b_v1, b_l1), (b_v2, b_l2), (b_v3, b_l3)) : Atm) := by
    have := box_new (w.alloc (.cells #[.string ⟨s.toArray⟩, .string ⟨p.toArray⟩, .int .i64 (n : Int), .bool a_v0, .string ⟨a_l0.toArray⟩, .bool a_v1, .string ⟨a_l1.toArray⟩, .bool a_v2, .string ⟨a_l2.toArray⟩, .bool a_v3, .string ⟨a_l3.toArray⟩] 33)) ((s, p, (n : Int), (b_v0, b_l0), (b_v1, b_l1), (b_v2, b_l2), (b_v3, b_l3)) : Atm) 33
    rwa [World.size_alloc] at this
  have a0 := a_B.s
  have a1 := a_B.p
  have a2 := a_B.n
  have b0 := b_B.s
  have b1 := b_B.p
  have b2 := b_B.n
  have hi0 : (0 : Int) ≤ (n : Int) := by omega
  have hi4 : (n : Int) ≤ 4 := by omega
  clear a_B b_B
  go_enter Tryz.func72, Tryz.ntmps72
  go_wp2_with fail
  go_ret
  exact ⟨rfl, hS⟩
set_option maxHeartbeats 2000000 in
set_option maxRecDepth 100000 in
theorem malike_no (a_s a_p : List UInt8) (a_n : Int) (a_v0 a_v1 a_v2 a_v3 : Bool) (a_l0 a_l1 a_l2 a_l3 : List UInt8) (b_s b_p : List UInt8) (b_n : Int) (b_v0 b_v1 b_v2 b_v3 : Bool) (b_l0 b_l1 b_l2 b_l3 : List UInt8) (h : ¬ (a_s = b_s ∧ a_p = b_p ∧ a_n = b_n)) (w : World) :
    Calls Tryz.prog 72 #[.agg #[.string ⟨a_s.toArray⟩, .string ⟨a_p.toArray⟩, .int .i64 a_n, .bool a_v0, .string ⟨a_l0.toArray⟩, .bool a_v1, .string ⟨a_l1.toArray⟩, .bool a_v2, .string ⟨a_l2.toArray⟩, .bool a_v3, .string ⟨a_l3.toArray⟩], .agg #[.string ⟨b_s.toArray⟩, .string ⟨b_p.toArray⟩, .int .i64 b_n, .bool b_v0, .string ⟨b_l0.toArray⟩, .bool b_v1, .string ⟨b_l1.toArray⟩, .bool b_v2, .string ⟨b_l2.toArray⟩, .bool b_v3, .string ⟨b_l3.toArray⟩]] w fun e w' => e = .returned (.bool false) ∧ Since w w' := by
  have hS : Since w ((w.alloc (.cells #[.string ⟨a_s.toArray⟩, .string ⟨a_p.toArray⟩, .int .i64 a_n, .bool a_v0, .string ⟨a_l0.toArray⟩, .bool a_v1, .string ⟨a_l1.toArray⟩, .bool a_v2, .string ⟨a_l2.toArray⟩, .bool a_v3, .string ⟨a_l3.toArray⟩] 33)).alloc (.cells #[.string ⟨b_s.toArray⟩, .string ⟨b_p.toArray⟩, .int .i64 b_n, .bool b_v0, .string ⟨b_l0.toArray⟩, .bool b_v1, .string ⟨b_l1.toArray⟩, .bool b_v2, .string ⟨b_l2.toArray⟩, .bool b_v3, .string ⟨b_l3.toArray⟩] 33)) := ((Since.refl _).alloc _).alloc _
  have a_B : Box ((w.alloc (.cells #[.string ⟨a_s.toArray⟩, .string ⟨a_p.toArray⟩, .int .i64 a_n, .bool a_v0, .string ⟨a_l0.toArray⟩, .bool a_v1, .string ⟨a_l1.toArray⟩, .bool a_v2, .string ⟨a_l2.toArray⟩, .bool a_v3, .string ⟨a_l3.toArray⟩] 33)).alloc (.cells #[.string ⟨b_s.toArray⟩, .string ⟨b_p.toArray⟩, .int .i64 b_n, .bool b_v0, .string ⟨b_l0.toArray⟩, .bool b_v1, .string ⟨b_l1.toArray⟩, .bool b_v2, .string ⟨b_l2.toArray⟩, .bool b_v3, .string ⟨b_l3.toArray⟩] 33)) w.heap.size ((a_s, a_p, a_n, (a_v0, a_l0), (a_v1, a_l1), (a_v2, a_l2), (a_v3, a_l3)) : Atm) := (box_new w ((a_s, a_p, a_n, (a_v0, a_l0), (a_v1, a_l1), (a_v2, a_l2), (a_v3, a_l3)) : Atm) _).next ((Since.refl _).alloc _)
  have b_B : Box ((w.alloc (.cells #[.string ⟨a_s.toArray⟩, .string ⟨a_p.toArray⟩, .int .i64 a_n, .bool a_v0, .string ⟨a_l0.toArray⟩, .bool a_v1, .string ⟨a_l1.toArray⟩, .bool a_v2, .string ⟨a_l2.toArray⟩, .bool a_v3, .string ⟨a_l3.toArray⟩] 33)).alloc (.cells #[.string ⟨b_s.toArray⟩, .string ⟨b_p.toArray⟩, .int .i64 b_n, .bool b_v0, .string ⟨b_l0.toArray⟩, .bool b_v1, .string ⟨b_l1.toArray⟩, .bool b_v2, .string ⟨b_l2.toArray⟩, .bool b_v3, .string ⟨b_l3.toArray⟩] 33)) (w.heap.size + 1) ((b_s, b_p, b_n, (b_v0, b_l0), (b_v1, b_l1), (b_v2, b_l2), (b_v3, b_l3)) : Atm) := by
    have := box_new (w.alloc (.cells #[.string ⟨a_s.toArray⟩, .string ⟨a_p.toArray⟩, .int .i64 a_n, .bool a_v0, .string ⟨a_l0.toArray⟩, .bool a_v1, .string ⟨a_l1.toArray⟩, .bool a_v2, .string ⟨a_l2.toArray⟩, .bool a_v3, .string ⟨a_l3.toArray⟩] 33)) ((b_s, b_p, b_n, (b_v0, b_l0), (b_v1, b_l1), (b_v2, b_l2), (b_v3, b_l3)) : Atm) 33
    rwa [World.size_alloc] at this
  have a0 := a_B.s
  have a1 := a_B.p
  have a2 := a_B.n
  have b0 := b_B.s
  have b1 := b_B.p
  have b2 := b_B.n
  clear a_B b_B
  go_enter Tryz.func72, Tryz.ntmps72
  by_cases h1 : a_s = b_s
  · subst h1
    by_cases h2 : a_p = b_p
    · subst h2
      have h3 : ¬ a_n = b_n := fun e => h ⟨rfl, rfl, e⟩
      clear h
      go_wp2_with fail
      go_ret
      exact ⟨rfl, hS⟩
    · clear h
      go_wp2_with fail
      go_ret
      exact ⟨rfl, hS⟩
  · clear h
    go_wp2_with fail
    go_ret
    exact ⟨rfl, hS⟩

/-- The pairs of terms that are looked at. -/
def pairsA (a b : Atm) : List (Tm × Tm) := ((argsL a).zip (argsL b)).take (countA a)
/-- Extending bindings so that a pattern becomes a ground atom. -/
def extA (l : List Bnd) (a b : Atm) : Option (List Bnd) := if a.1 = b.1 ∧ a.2.1 = b.2.1 ∧ a.2.2.1 = b.2.2.1 then matchF (pairsA a b) l else none
theorem ground_pairs {a b : Atm} (hg : groundA b = true) (hn : countA a = countA b) : ∀ q ∈ pairsA a b, q.2.1 = false := by
  intro q hq
  unfold pairsA at hq
  rw [List.zip, List.take_zipWith] at hq
  have h2 := (List.of_mem_zip (show (q.1, q.2) ∈ ((argsL a).take (countA a)).zip ((argsL b).take (countA a)) from hq)).2
  rw [hn] at h2
  have := List.all_eq_true.1 (show ((argsL b).take (countA b)).all (fun t => !t.1) = true from hg) _ h2
  simpa using this
def bndN (l : List Bnd) : Prop := InvB l ∧ ConstL l
theorem bndN.nil : bndN [] := ⟨InvB.nil, fun b hb => by cases hb⟩
theorem bndN.bind {l : List Bnd} {v : List UInt8} {x : Tm} (h : bndN l) (hx : x.1 = false) (hv : v ≠ []) (hn : x.2 ≠ []) (hg : getB l v = none) : bndN (bindP l v x) :=
  ⟨h.1.bind ⟨hv, hn, hg, termS_const l hx, fun e => by rw [hx] at e; cases e.1⟩, const_bind h.2 hx⟩
theorem get_const {l : List Bnd} (h : ConstL l) {s : List UInt8} {t : Tm} (hg : getB l s = some t) : t.1 = false := h _ (getB_mem hg)
/-- Matching, where a ground term's name may be empty. -/
def matchG : List (Tm × Tm) → List Bnd → Option (List Bnd)
  | [], l => some l
  | p :: r, l => if p.1.1 then (match getB l p.1.2 with | some z => if z = p.2 then matchG r l else none | none => if p.2.2 = [] then none else matchG r (bindP l p.1.2 p.2)) else if p.1 = p.2 then matchG r l else none
theorem matchG_F : ∀ {P : List (Tm × Tm)} {l : List Bnd}, (∀ q ∈ P, q.2.2 ≠ []) → matchG P l = matchF P l
  | [], l, _ => rfl
  | p :: r, l, h => by
    have hr := fun q hq => h q (List.mem_cons_of_mem _ hq)
    rw [matchG, matchF]
    split
    · cases getB l p.1.2 with
      | some z => simp only; split <;> first | rfl | exact matchG_F hr
      | none => simp only; rw [if_neg (h p List.mem_cons_self)]; exact matchG_F hr
    · split <;> first | rfl | exact matchG_F hr
set_option maxHeartbeats 2000000 in
set_option maxRecDepth 100000 in
theorem ubind_noname (v : Value) (L : List Bnd) (s : List UInt8) (tv : Bool) (w : World) (hv : RowS w v L) (hi : InvB L) (hm : L.length ≤ 1000) (hs : s ≠ []) :
    Calls Tryz.prog 76 #[v, .string ⟨s.toArray⟩, .agg #[.bool tv, .string ⟨#[]⟩]] w fun e w' => e = .returned (.tuple #[.slice none 0 0, .int .i64 2]) ∧ Since w w' := by
  have HV := Lib.hid hv
  have HCK := Lib.hid (fun W (h : RowOf 3 bndC W v L) => ucheck_any v L W h hi (by omega))
  have HG := Lib.hid (fun W (h : RowOf 3 bndC W v L) => get_any v L s W h hi.1 (by omega))
  have HT := Lib.hid (fun W (h : RowOf 3 bndC W v L) => sterm_any v L tv [] W h hi.1 (by omega))
  obtain ⟨⟨xv, xt⟩, hx⟩ : ∃ t, Hid (t = termS L (tv, [])) := ⟨_, rfl⟩
  obtain ⟨⟨gv, gl⟩, gb, hgt⟩ : ∃ (t : Tm) (b : Bool), Hid (gtV (getB L s) = .tuple #[.agg #[.bool t.1, .string ⟨t.2.toArray⟩], .bool b]) := by
    cases hh : getB L s with
    | none => exact ⟨(false, []), false, rfl⟩
    | some t => exact ⟨t, true, rfl⟩
  rw [hgt.out] at HG
  rw [← hx.out] at HT
  simp only [tmV] at HT HG
  have hs1 : s.isEmpty = false := by rw [List.isEmpty_eq_false_iff]; exact hs
  have hS1 : Since w (w.alloc (.cells #[.bool tv, .string ⟨#[]⟩] 30)) := (Since.refl _).alloc _
  have K1 : Hid (Cel (w.alloc (.cells #[.bool tv, .string ⟨#[]⟩] 30)) w.heap.size #[.bool tv, .string ⟨#[]⟩] 30) := heap_alloc_new w _
  clear hv hi hs hx hgt
  go_enter Tryz.func76, Tryz.ntmps76
  go_wp2_with fail
  refine (HCK.out _ (HV.out.1.next hS1)).mono ?_
  rintro e w1 ⟨rfl, hb⟩
  have hS := hS1.trans hb
  replace K1 := Lib.hid (K1.out.next hb)
  clear hb hS1
  go_wp2_with fail
  refine (HG.out _ (HV.out.1.next hS)).mono ?_
  rintro e w2 ⟨rfl, hb⟩
  have hb2 := hb.alloc (.cells #[.bool gv, .string ⟨gl.toArray⟩] 30)
  have hb3 := hb.alloc (.cells #[.bool false, .string ⟨#[]⟩] 30)
  have hS2 := hS.trans hb2
  have hS3 := hS.trans hb3
  have K1a := K1.out.next hb2
  have K1b := K1.out.next hb3
  obtain ⟨k0, k1⟩ := K1a.two
  obtain ⟨k2, k3⟩ := K1b.two
  go_wp2_with fail
  refine (HT.out _ (by first | exact HV.out.1.next hS2 | exact HV.out.1.next hS3)).mono ?_
  rintro e w3 ⟨rfl, hb9⟩
  have hb8 := hb9.alloc (.cells #[.string ⟨s.toArray⟩, .bool xv, .string ⟨xt.toArray⟩] 102)
  have hSZ : Since w (w3.alloc (.cells #[.string ⟨s.toArray⟩, .bool xv, .string ⟨xt.toArray⟩] 102)) := by first | exact hS2.trans hb8 | exact hS3.trans hb8
  have K1z : Cel (w3.alloc (.cells #[.string ⟨s.toArray⟩, .bool xv, .string ⟨xt.toArray⟩] 102)) w.heap.size #[.bool tv, .string ⟨#[]⟩] 30 := by first | exact K1a.next hb8 | exact K1b.next hb8
  obtain ⟨k4, k5⟩ := K1z.two
  clear k0 k1 k2 k3 K1a K1b K1z K1 hb hb2 hb3
  go_wp2_with fail
  go_ret2
  exact ⟨rfl, hSZ⟩
/-- Matching's result as a function's: the bindings and true, or none and false. -/
def MatchP (R : Option (List Bnd)) (w : World) (e : Ending) (w' : World) : Prop :=
  ∃ v r, e = .returned (.tuple #[v, .bool r]) ∧ Since w w' ∧ match R with | some m => r = true ∧ RowS w' v m | none => r = false ∧ v = .slice none 0 0
theorem run_bndNil (a : Option Addr) (l c : Nat) (W : World) : (binOp .eql 72 (.slice a l c) (.slice none 0 0)).run Tryz.prog W = .ok (.bool a.isNone) W := by
  simp only [binOp]
  simp [run_equal_slice_nil W 72 _ a l c Tryz.underlying72]
section
attribute [local go_sem ↓] run_bndNil
set_option maxHeartbeats 1000000 in
set_option maxRecDepth 100000 in
theorem clone_bnd (v : Value) (L : List Bnd) (w : World) (hv : RowS w v L) (hm : L.length ≤ 1000000) :
    Calls Tryz.prog 75 #[v] w fun e w' => ∃ v', e = .returned v' ∧ RowS w' v' L ∧ Since w w' := by
  rcases hv.2 with ⟨rfl, rfl⟩ | ⟨b, o, c, rfl⟩
  · go_enter Tryz.func75, Tryz.ntmps75
    go_wp2_with fail
    go_ret
    exact ⟨_, rfl, hv, Since.refl _⟩
  · obtain ⟨i0, hi0, hz0, hz1, hz2⟩ := info_parts bndInfo
    have HI := Lib.hid (And.intro hi0 (And.intro hz0 (And.intro hz1 hz2)))
    have HR := Lib.hid (reads_of_rowOf (f := bndC) (fun _ => rfl) (hv.1.next ((Since.refl w).alloc (.cells #[] 102))) (by decide))
    clear hi0 hz0 hz1 hz2 hv
    go_enter Tryz.func75, Tryz.ntmps75
    go_wp2_with (at_builtin; refine wpList_append_any _ rfl (.tmp 5) (.tmp 6) 72 rfl w.heap.size 102 i0 (.agg #[.string ⟨#[]⟩, .bool false, .string ⟨#[]⟩]) 3 40 Tryz.underlying72 HI.out.1 HI.out.2.1 HI.out.2.2.1 HI.out.2.2.2 rfl (by decide) _ 0 [] rfl (own_emptyB w) _ (some ⟨b, o, none⟩) L.length c (L.flatMap bndC) rfl HR.out ?c1 ?c2 ?c3 ?c4 ?_)
    case c1 => exact flat_one L
    case c2 => unfold maxLen; omega
    case c3 => omega
    case c4 => simp
    intro v' w' hown hgrow _
    have hB : Since w w' := Below.grown ((Since.refl w).alloc _) hgrow (by simp) (own_ge (own_emptyB w))
    clear HR hgrow
    go_wp2_with fail
    go_ret
    refine ⟨_, rfl, rowS_of_own (n := 0 + L.length) (by simpa using hown) (by omega), hB⟩
end
theorem run_ix0 (c0 c1 c2 c3 c4 c5 c6 c7 : Value) (W : World) : (Instr.index 31 (.agg #[c0, c1, c2, c3, c4, c5, c6, c7]) (.int .i64 0)).run Tryz.prog W = .ok (.agg #[c0, c1]) W := by kernel_rfl
theorem run_ix1 (c0 c1 c2 c3 c4 c5 c6 c7 : Value) (W : World) : (Instr.index 31 (.agg #[c0, c1, c2, c3, c4, c5, c6, c7]) (.int .i64 1)).run Tryz.prog W = .ok (.agg #[c2, c3]) W := by kernel_rfl
theorem run_ix2 (c0 c1 c2 c3 c4 c5 c6 c7 : Value) (W : World) : (Instr.index 31 (.agg #[c0, c1, c2, c3, c4, c5, c6, c7]) (.int .i64 2)).run Tryz.prog W = .ok (.agg #[c4, c5]) W := by kernel_rfl
theorem run_ix3 (c0 c1 c2 c3 c4 c5 c6 c7 : Value) (W : World) : (Instr.index 31 (.agg #[c0, c1, c2, c3, c4, c5, c6, c7]) (.int .i64 3)).run Tryz.prog W = .ok (.agg #[c6, c7]) W := by kernel_rfl
attribute [local go_sem ↓] run_ix0 run_ix1 run_ix2 run_ix3
set_option maxHeartbeats 16000000 in
set_option maxRecDepth 100000 in
theorem mextend_main (s p : List UInt8) (n : Nat) (a_v0 : Bool) (a_l0 : List UInt8) (a_v1 : Bool) (a_l1 : List UInt8) (a_v2 : Bool) (a_l2 : List UInt8) (a_v3 : Bool) (a_l3 : List UInt8) (b_v0 : Bool) (b_l0 : List UInt8) (b_v1 : Bool) (b_l1 : List UInt8) (b_v2 : Bool) (b_l2 : List UInt8) (b_v3 : Bool) (b_l3 : List UInt8) (hn : n ≤ 4) (v : Value) (l : List Bnd) (w : World) (hv : RowS w v l) (hl : bndN l) (hll : l.length ≤ 500) (hE : Env w) (hF : FitsA ((s, p, (n : Int), (b_v0, b_l0), (b_v1, b_l1), (b_v2, b_l2), (b_v3, b_l3)) : Atm))
    (hP : ∀ q ∈ pairsA ((s, p, (n : Int), (a_v0, a_l0), (a_v1, a_l1), (a_v2, a_l2), (a_v3, a_l3)) : Atm) ((s, p, (n : Int), (b_v0, b_l0), (b_v1, b_l1), (b_v2, b_l2), (b_v3, b_l3)) : Atm), q.1.2 ≠ []) (hG : ∀ q ∈ pairsA ((s, p, (n : Int), (a_v0, a_l0), (a_v1, a_l1), (a_v2, a_l2), (a_v3, a_l3)) : Atm) ((s, p, (n : Int), (b_v0, b_l0), (b_v1, b_l1), (b_v2, b_l2), (b_v3, b_l3)) : Atm), q.2.1 = false) (hgr : groundA ((s, p, (n : Int), (b_v0, b_l0), (b_v1, b_l1), (b_v2, b_l2), (b_v3, b_l3)) : Atm) = true) :
    Calls Tryz.prog 56 #[v, .agg #[.string ⟨s.toArray⟩, .string ⟨p.toArray⟩, .int .i64 (n : Int), .bool a_v0, .string ⟨a_l0.toArray⟩, .bool a_v1, .string ⟨a_l1.toArray⟩, .bool a_v2, .string ⟨a_l2.toArray⟩, .bool a_v3, .string ⟨a_l3.toArray⟩], .agg #[.string ⟨s.toArray⟩, .string ⟨p.toArray⟩, .int .i64 (n : Int), .bool b_v0, .string ⟨b_l0.toArray⟩, .bool b_v1, .string ⟨b_l1.toArray⟩, .bool b_v2, .string ⟨b_l2.toArray⟩, .bool b_v3, .string ⟨b_l3.toArray⟩]] w (MatchP (matchG (pairsA ((s, p, (n : Int), (a_v0, a_l0), (a_v1, a_l1), (a_v2, a_l2), (a_v3, a_l3)) : Atm) ((s, p, (n : Int), (b_v0, b_l0), (b_v1, b_l1), (b_v2, b_l2), (b_v3, b_l3)) : Atm)) l) w) := by
  obtain ⟨va, vc, rfl⟩ := hv.1.form
  have hcn : countA ((s, p, (n : Int), (a_v0, a_l0), (a_v1, a_l1), (a_v2, a_l2), (a_v3, a_l3)) : Atm) = n := by unfold countA; simp only; omega
  obtain ⟨P, hP0⟩ : ∃ P, Hid (P = pairsA ((s, p, (n : Int), (a_v0, a_l0), (a_v1, a_l1), (a_v2, a_l2), (a_v3, a_l3)) : Atm) ((s, p, (n : Int), (b_v0, b_l0), (b_v1, b_l1), (b_v2, b_l2), (b_v3, b_l3)) : Atm)) := ⟨_, rfl⟩
  have hPl : P.length = n := by rw [hP0.out]; unfold pairsA; rw [hcn]; exact pairs_len _ _ hn
  have hat := fun k (hk : k < n) => uni_pairs (a := ((s, p, (n : Int), (a_v0, a_l0), (a_v1, a_l1), (a_v2, a_l2), (a_v3, a_l3)) : Atm)) (b := ((s, p, (n : Int), (b_v0, b_l0), (b_v1, b_l1), (b_v2, b_l2), (b_v3, b_l3)) : Atm)) hn hk
  have hat2 : ∀ k (hk : k < n), ∃ h : k < P.length, P[k]'h = ((argsL ((s, p, (n : Int), (a_v0, a_l0), (a_v1, a_l1), (a_v2, a_l2), (a_v3, a_l3)) : Atm))[k]'(by rw [argsL_len]; exact Nat.lt_of_lt_of_le hk hn), (argsL ((s, p, (n : Int), (b_v0, b_l0), (b_v1, b_l1), (b_v2, b_l2), (b_v3, b_l3)) : Atm))[k]'(by rw [argsL_len]; exact Nat.lt_of_lt_of_le hk hn)) := by
    intro k hk
    obtain ⟨h, h1, h2, h3⟩ := hat k hk
    refine ⟨by rw [hPl]; exact hk, ?_⟩
    have hPe : P = ((argsL ((s, p, (n : Int), (a_v0, a_l0), (a_v1, a_l1), (a_v2, a_l2), (a_v3, a_l3)) : Atm)).zip (argsL ((s, p, (n : Int), (b_v0, b_l0), (b_v1, b_l1), (b_v2, b_l2), (b_v3, b_l3)) : Atm))).take n := by rw [hP0.out]; unfold pairsA; rw [hcn]
    subst hPe
    exact h3
  rw [← hP0.out] at hP hG ⊢
  have HNP := Lib.hid hP
  have HGP := Lib.hid hG
  have HAT := Lib.hid hat2
  have HGR := Lib.hid (fun W hE => ground_any s p (n : Int) b_v0 b_v1 b_v2 b_v3 b_l0 b_l1 b_l2 b_l3 W hF hE)
  rw [hgr] at HGR
  have HAL := Lib.hid (fun W => malike_yes s p n a_v0 a_v1 a_v2 a_v3 a_l0 a_l1 a_l2 a_l3 b_v0 b_v1 b_v2 b_v3 b_l0 b_l1 b_l2 b_l3 hn W)
  have HCK := Lib.hid (fun W (h : RowS W (.slice va l.length vc) l) => ucheck_any (.slice va l.length vc) l W h.1 hl.1 (by omega))
  have HGT := Lib.hid (fun W (h : RowS W (.slice va l.length vc) l) (x : List UInt8) => get_any (.slice va l.length vc) l x W h.1 hl.1.1 (by omega))
  have HCL := Lib.hid (fun W (h : RowS W (.slice va l.length vc) l) => clone_bnd (.slice va l.length vc) l W h (by omega))
  have HV := Lib.hid hv
  have HLN := Lib.hid hl
  obtain ⟨R, hR⟩ : ∃ R, Hid (R = matchG P l) := ⟨_, rfl⟩
  have hR0 : Hid (R = matchG (P.drop 0) l) := hR
  rw [← hR.out]
  have hS2 : Since w ((w.alloc (.cells #[.string ⟨s.toArray⟩, .string ⟨p.toArray⟩, .int .i64 (n : Int), .bool a_v0, .string ⟨a_l0.toArray⟩, .bool a_v1, .string ⟨a_l1.toArray⟩, .bool a_v2, .string ⟨a_l2.toArray⟩, .bool a_v3, .string ⟨a_l3.toArray⟩] 33)).alloc (.cells #[.string ⟨s.toArray⟩, .string ⟨p.toArray⟩, .int .i64 (n : Int), .bool b_v0, .string ⟨b_l0.toArray⟩, .bool b_v1, .string ⟨b_l1.toArray⟩, .bool b_v2, .string ⟨b_l2.toArray⟩, .bool b_v3, .string ⟨b_l3.toArray⟩] 33)) := ((Since.refl _).alloc _).alloc _
  have a_B : Box ((w.alloc (.cells #[.string ⟨s.toArray⟩, .string ⟨p.toArray⟩, .int .i64 (n : Int), .bool a_v0, .string ⟨a_l0.toArray⟩, .bool a_v1, .string ⟨a_l1.toArray⟩, .bool a_v2, .string ⟨a_l2.toArray⟩, .bool a_v3, .string ⟨a_l3.toArray⟩] 33)).alloc (.cells #[.string ⟨s.toArray⟩, .string ⟨p.toArray⟩, .int .i64 (n : Int), .bool b_v0, .string ⟨b_l0.toArray⟩, .bool b_v1, .string ⟨b_l1.toArray⟩, .bool b_v2, .string ⟨b_l2.toArray⟩, .bool b_v3, .string ⟨b_l3.toArray⟩] 33)) w.heap.size ((s, p, (n : Int), (a_v0, a_l0), (a_v1, a_l1), (a_v2, a_l2), (a_v3, a_l3)) : Atm) := (box_new w ((s, p, (n : Int), (a_v0, a_l0), (a_v1, a_l1), (a_v2, a_l2), (a_v3, a_l3)) : Atm) _).next ((Since.refl _).alloc _)
  have b_B : Box ((w.alloc (.cells #[.string ⟨s.toArray⟩, .string ⟨p.toArray⟩, .int .i64 (n : Int), .bool a_v0, .string ⟨a_l0.toArray⟩, .bool a_v1, .string ⟨a_l1.toArray⟩, .bool a_v2, .string ⟨a_l2.toArray⟩, .bool a_v3, .string ⟨a_l3.toArray⟩] 33)).alloc (.cells #[.string ⟨s.toArray⟩, .string ⟨p.toArray⟩, .int .i64 (n : Int), .bool b_v0, .string ⟨b_l0.toArray⟩, .bool b_v1, .string ⟨b_l1.toArray⟩, .bool b_v2, .string ⟨b_l2.toArray⟩, .bool b_v3, .string ⟨b_l3.toArray⟩] 33)) (w.heap.size + 1) ((s, p, (n : Int), (b_v0, b_l0), (b_v1, b_l1), (b_v2, b_l2), (b_v3, b_l3)) : Atm) := by
    have := box_new (w.alloc (.cells #[.string ⟨s.toArray⟩, .string ⟨p.toArray⟩, .int .i64 (n : Int), .bool a_v0, .string ⟨a_l0.toArray⟩, .bool a_v1, .string ⟨a_l1.toArray⟩, .bool a_v2, .string ⟨a_l2.toArray⟩, .bool a_v3, .string ⟨a_l3.toArray⟩] 33)) ((s, p, (n : Int), (b_v0, b_l0), (b_v1, b_l1), (b_v2, b_l2), (b_v3, b_l3)) : Atm) 33
    rwa [World.size_alloc] at this
  have HE := Lib.hid hE
  have HPL := Lib.hid hPl
  have hn4 : (n : Int) ≤ 4 := by omega
  clear hP hG hR hP0 hgr hcn hPl hat hat2 hv hl hE hF
  go_enter Tryz.func56, Tryz.ntmps56
  go_wp2_with fail
  go_step3
  go_wp2_with fail
  refine (HCK.out _ (HV.out.next hS2)).mono ?_
  rintro e w1 ⟨rfl, hb⟩
  have hS := hS2.trans hb
  replace a_B := a_B.next hb
  replace b_B := b_B.next hb
  clear hb hS2
  obtain ⟨a_c0, a_c1, a_c2, a_c3, a_c4, a_c5, a_c6, a_c7, a_c8, a_c9, a_c10⟩ := a_B.all
  obtain ⟨b_c0, b_c1, b_c2, b_c3, b_c4, b_c5, b_c6, b_c7, b_c8, b_c9, b_c10⟩ := b_B.all
  go_wp2_with fail
  refine (HAL.out _).mono ?_
  rintro e w3 ⟨rfl, hb⟩
  replace hS := hS.trans hb
  replace a_B := a_B.next hb
  replace b_B := b_B.next hb
  clear hb HAL a_c0 a_c1 a_c2 a_c3 a_c4 a_c5 a_c6 a_c7 a_c8 a_c9 a_c10 b_c0 b_c1 b_c2 b_c3 b_c4 b_c5 b_c6 b_c7 b_c8 b_c9 b_c10
  obtain ⟨b_c0, b_c1, b_c2, b_c3, b_c4, b_c5, b_c6, b_c7, b_c8, b_c9, b_c10⟩ := b_B.all
  go_wp2_with fail
  refine (HGR.out _ (HE.out.next hS)).mono ?_
  rintro e w4 ⟨rfl, hb⟩
  replace hS := hS.trans hb
  replace a_B := a_B.next hb
  replace b_B := b_B.next hb
  clear hb HGR b_c0 b_c1 b_c2 b_c3 b_c4 b_c5 b_c6 b_c7 b_c8 b_c9 b_c10
  have HA := Lib.hid a_B
  have HB := Lib.hid b_B
  obtain ⟨a_c0, a_c1, a_c2, a_c3, a_c4, a_c5, a_c6, a_c7, a_c8, a_c9, a_c10⟩ := a_B.all
  clear a_B b_B
  go_wp2_with fail
  clear a_c0 a_c1 a_c2 a_c3 a_c4 a_c5 a_c6 a_c7 a_c8 a_c9 a_c10
  go_loopw [37] (fun i wr => ∃ k : Nat, k ≤ 4 ∧ i = .int .i64 (k : Int) ∧ Since w4 wr) (fun i _ => 4 - (intOf i).toNat)
  case atStart => exact ⟨0, by omega, rfl, Since.refl _⟩
  case round =>
    obtain ⟨k, hk, rfl, hSr⟩ := hrel
    have a2 : wr.cell? ⟨w.heap.size, 2, none⟩ = some (.int .i64 (n : Int)) := (HA.out.next hSr).n
    by_cases hk4 : k < 4
    · rcases (show k = 0 ∨ k = 1 ∨ k = 2 ∨ k = 3 by omega) with rfl | rfl | rfl | rfl
      · have HG9 := HGT.out (wr.alloc (.cells #[.bool a_v0, .string ⟨a_l0.toArray⟩] 30)) (HV.out.next ((hS.trans hSr).alloc _)) a_l0
        have a2' : (wr.alloc (.cells #[.bool a_v0, .string ⟨a_l0.toArray⟩] 30)).cell? ⟨w.heap.size, 2, none⟩ = some (.int .i64 (n : Int)) := Since.cell ((Since.refl _).alloc _) a2
        have hone := Lib.hid (fun t (h : getB l a_l0 = some t) => get_const HLN.out.2 h)
        have hnk : 0 + 0 < n → a_l0 ≠ [] := fun h => by
          obtain ⟨q0, q1⟩ := HAT.out 0 (by omega)
          have hnm := HNP.out _ (List.getElem_mem q0)
          rw [q1] at hnm
          exact hnm
        have x0 : (wr.alloc (.cells #[.bool a_v0, .string ⟨a_l0.toArray⟩] 30)).cell? ⟨wr.heap.size, 0, none⟩ = some (.bool a_v0) := by rw [World.cell?_alloc_new]; rfl
        have x1 : (wr.alloc (.cells #[.bool a_v0, .string ⟨a_l0.toArray⟩] 30)).cell? ⟨wr.heap.size, 1, none⟩ = some (.string ⟨a_l0.toArray⟩) := by rw [World.cell?_alloc_new]; rfl
        by_cases hkn : 0 < n
        · have hki : (0 : Int) < (n : Int) := by omega
          have hne : (a_l0 == []) = false := by
            have := hnk (by omega)
            simpa using this
          have hne2 : a_l0.isEmpty = false := by
            have := hnk (by omega)
            cases h : a_l0 with
            | nil => exact absurd h this
            | cons _ _ => rfl
          cases hv : a_v0
          all_goals
            cases hg : getB l a_l0
            case' some t => obtain ⟨tv, tn⟩ := t; obtain rfl : tv = false := hone.out _ hg
            all_goals
              rw [hg] at HG9; simp only [gtV] at HG9
              subst hv
              clear hone hnk hkn HNP HGP HAT
              go_wp2_with fail
              refine HG9.mono ?_
              rintro e w5 ⟨rfl, hb⟩
              replace a2' := hb.cell a2'
              replace x0 := hb.cell x0
              replace x1 := hb.cell x1
              go_upto_region 7 with (fail)
              generalize hw7 : w5.alloc _ = w7
              have hs7 : Since w5 w7 := by rw [← hw7]; exact (Since.refl _).alloc _
              have z0 : w7.cell? ⟨w5.heap.size, 0, none⟩ = some (.bool false) := by rw [← hw7, World.cell?_alloc_new]; rfl
              replace a2' := hs7.cell a2'
              replace x0 := hs7.cell x0
              replace x1 := hs7.cell x1
              clear hw7
              go_wp2_with fail
              go_roundw
              case rel => exact ⟨0 + 1, by omega, by go_num, ((hSr.alloc _).trans hb).trans hs7⟩
              case measure => simp [intOf]
        · have hki : ¬ (0 : Int) < (n : Int) := by omega
          cases hg : getB l a_l0
          case' some t => obtain ⟨tv, tn⟩ := t
          all_goals
            rw [hg] at HG9; simp only [gtV] at HG9
            clear hone hnk hkn HNP HGP HAT
            go_wp2_with fail
            refine HG9.mono ?_
            rintro e w5 ⟨rfl, hb⟩
            replace a2' := hb.cell a2'
            replace x0 := hb.cell x0
            replace x1 := hb.cell x1
            go_upto_region 7 with (fail)
            generalize hw7 : w5.alloc _ = w7
            have hs7 : Since w5 w7 := by rw [← hw7]; exact (Since.refl _).alloc _
            replace a2' := hs7.cell a2'
            clear hw7
            go_wp2_with fail
            go_roundw
            case rel => exact ⟨0 + 1, by omega, by go_num, ((hSr.alloc _).trans hb).trans hs7⟩
            case measure => simp [intOf]
      · have HG9 := HGT.out (wr.alloc (.cells #[.bool a_v1, .string ⟨a_l1.toArray⟩] 30)) (HV.out.next ((hS.trans hSr).alloc _)) a_l1
        have a2' : (wr.alloc (.cells #[.bool a_v1, .string ⟨a_l1.toArray⟩] 30)).cell? ⟨w.heap.size, 2, none⟩ = some (.int .i64 (n : Int)) := Since.cell ((Since.refl _).alloc _) a2
        have hone := Lib.hid (fun t (h : getB l a_l1 = some t) => get_const HLN.out.2 h)
        have hnk : 0 + 1 < n → a_l1 ≠ [] := fun h => by
          obtain ⟨q0, q1⟩ := HAT.out 1 (by omega)
          have hnm := HNP.out _ (List.getElem_mem q0)
          rw [q1] at hnm
          exact hnm
        have x0 : (wr.alloc (.cells #[.bool a_v1, .string ⟨a_l1.toArray⟩] 30)).cell? ⟨wr.heap.size, 0, none⟩ = some (.bool a_v1) := by rw [World.cell?_alloc_new]; rfl
        have x1 : (wr.alloc (.cells #[.bool a_v1, .string ⟨a_l1.toArray⟩] 30)).cell? ⟨wr.heap.size, 1, none⟩ = some (.string ⟨a_l1.toArray⟩) := by rw [World.cell?_alloc_new]; rfl
        by_cases hkn : 1 < n
        · have hki : (1 : Int) < (n : Int) := by omega
          have hne : (a_l1 == []) = false := by
            have := hnk (by omega)
            simpa using this
          have hne2 : a_l1.isEmpty = false := by
            have := hnk (by omega)
            cases h : a_l1 with
            | nil => exact absurd h this
            | cons _ _ => rfl
          cases hv : a_v1
          all_goals
            cases hg : getB l a_l1
            case' some t => obtain ⟨tv, tn⟩ := t; obtain rfl : tv = false := hone.out _ hg
            all_goals
              rw [hg] at HG9; simp only [gtV] at HG9
              subst hv
              clear hone hnk hkn HNP HGP HAT
              go_wp2_with fail
              refine HG9.mono ?_
              rintro e w5 ⟨rfl, hb⟩
              replace a2' := hb.cell a2'
              replace x0 := hb.cell x0
              replace x1 := hb.cell x1
              go_upto_region 7 with (fail)
              generalize hw7 : w5.alloc _ = w7
              have hs7 : Since w5 w7 := by rw [← hw7]; exact (Since.refl _).alloc _
              have z0 : w7.cell? ⟨w5.heap.size, 0, none⟩ = some (.bool false) := by rw [← hw7, World.cell?_alloc_new]; rfl
              replace a2' := hs7.cell a2'
              replace x0 := hs7.cell x0
              replace x1 := hs7.cell x1
              clear hw7
              go_wp2_with fail
              go_roundw
              case rel => exact ⟨1 + 1, by omega, by go_num, ((hSr.alloc _).trans hb).trans hs7⟩
              case measure => simp [intOf]
        · have hki : ¬ (1 : Int) < (n : Int) := by omega
          cases hg : getB l a_l1
          case' some t => obtain ⟨tv, tn⟩ := t
          all_goals
            rw [hg] at HG9; simp only [gtV] at HG9
            clear hone hnk hkn HNP HGP HAT
            go_wp2_with fail
            refine HG9.mono ?_
            rintro e w5 ⟨rfl, hb⟩
            replace a2' := hb.cell a2'
            replace x0 := hb.cell x0
            replace x1 := hb.cell x1
            go_upto_region 7 with (fail)
            generalize hw7 : w5.alloc _ = w7
            have hs7 : Since w5 w7 := by rw [← hw7]; exact (Since.refl _).alloc _
            replace a2' := hs7.cell a2'
            clear hw7
            go_wp2_with fail
            go_roundw
            case rel => exact ⟨1 + 1, by omega, by go_num, ((hSr.alloc _).trans hb).trans hs7⟩
            case measure => simp [intOf]
      · have HG9 := HGT.out (wr.alloc (.cells #[.bool a_v2, .string ⟨a_l2.toArray⟩] 30)) (HV.out.next ((hS.trans hSr).alloc _)) a_l2
        have a2' : (wr.alloc (.cells #[.bool a_v2, .string ⟨a_l2.toArray⟩] 30)).cell? ⟨w.heap.size, 2, none⟩ = some (.int .i64 (n : Int)) := Since.cell ((Since.refl _).alloc _) a2
        have hone := Lib.hid (fun t (h : getB l a_l2 = some t) => get_const HLN.out.2 h)
        have hnk : 0 + 2 < n → a_l2 ≠ [] := fun h => by
          obtain ⟨q0, q1⟩ := HAT.out 2 (by omega)
          have hnm := HNP.out _ (List.getElem_mem q0)
          rw [q1] at hnm
          exact hnm
        have x0 : (wr.alloc (.cells #[.bool a_v2, .string ⟨a_l2.toArray⟩] 30)).cell? ⟨wr.heap.size, 0, none⟩ = some (.bool a_v2) := by rw [World.cell?_alloc_new]; rfl
        have x1 : (wr.alloc (.cells #[.bool a_v2, .string ⟨a_l2.toArray⟩] 30)).cell? ⟨wr.heap.size, 1, none⟩ = some (.string ⟨a_l2.toArray⟩) := by rw [World.cell?_alloc_new]; rfl
        by_cases hkn : 2 < n
        · have hki : (2 : Int) < (n : Int) := by omega
          have hne : (a_l2 == []) = false := by
            have := hnk (by omega)
            simpa using this
          have hne2 : a_l2.isEmpty = false := by
            have := hnk (by omega)
            cases h : a_l2 with
            | nil => exact absurd h this
            | cons _ _ => rfl
          cases hv : a_v2
          all_goals
            cases hg : getB l a_l2
            case' some t => obtain ⟨tv, tn⟩ := t; obtain rfl : tv = false := hone.out _ hg
            all_goals
              rw [hg] at HG9; simp only [gtV] at HG9
              subst hv
              clear hone hnk hkn HNP HGP HAT
              go_wp2_with fail
              refine HG9.mono ?_
              rintro e w5 ⟨rfl, hb⟩
              replace a2' := hb.cell a2'
              replace x0 := hb.cell x0
              replace x1 := hb.cell x1
              go_upto_region 7 with (fail)
              generalize hw7 : w5.alloc _ = w7
              have hs7 : Since w5 w7 := by rw [← hw7]; exact (Since.refl _).alloc _
              have z0 : w7.cell? ⟨w5.heap.size, 0, none⟩ = some (.bool false) := by rw [← hw7, World.cell?_alloc_new]; rfl
              replace a2' := hs7.cell a2'
              replace x0 := hs7.cell x0
              replace x1 := hs7.cell x1
              clear hw7
              go_wp2_with fail
              go_roundw
              case rel => exact ⟨2 + 1, by omega, by go_num, ((hSr.alloc _).trans hb).trans hs7⟩
              case measure => simp [intOf]
        · have hki : ¬ (2 : Int) < (n : Int) := by omega
          cases hg : getB l a_l2
          case' some t => obtain ⟨tv, tn⟩ := t
          all_goals
            rw [hg] at HG9; simp only [gtV] at HG9
            clear hone hnk hkn HNP HGP HAT
            go_wp2_with fail
            refine HG9.mono ?_
            rintro e w5 ⟨rfl, hb⟩
            replace a2' := hb.cell a2'
            replace x0 := hb.cell x0
            replace x1 := hb.cell x1
            go_upto_region 7 with (fail)
            generalize hw7 : w5.alloc _ = w7
            have hs7 : Since w5 w7 := by rw [← hw7]; exact (Since.refl _).alloc _
            replace a2' := hs7.cell a2'
            clear hw7
            go_wp2_with fail
            go_roundw
            case rel => exact ⟨2 + 1, by omega, by go_num, ((hSr.alloc _).trans hb).trans hs7⟩
            case measure => simp [intOf]
      · have HG9 := HGT.out (wr.alloc (.cells #[.bool a_v3, .string ⟨a_l3.toArray⟩] 30)) (HV.out.next ((hS.trans hSr).alloc _)) a_l3
        have a2' : (wr.alloc (.cells #[.bool a_v3, .string ⟨a_l3.toArray⟩] 30)).cell? ⟨w.heap.size, 2, none⟩ = some (.int .i64 (n : Int)) := Since.cell ((Since.refl _).alloc _) a2
        have hone := Lib.hid (fun t (h : getB l a_l3 = some t) => get_const HLN.out.2 h)
        have hnk : 0 + 3 < n → a_l3 ≠ [] := fun h => by
          obtain ⟨q0, q1⟩ := HAT.out 3 (by omega)
          have hnm := HNP.out _ (List.getElem_mem q0)
          rw [q1] at hnm
          exact hnm
        have x0 : (wr.alloc (.cells #[.bool a_v3, .string ⟨a_l3.toArray⟩] 30)).cell? ⟨wr.heap.size, 0, none⟩ = some (.bool a_v3) := by rw [World.cell?_alloc_new]; rfl
        have x1 : (wr.alloc (.cells #[.bool a_v3, .string ⟨a_l3.toArray⟩] 30)).cell? ⟨wr.heap.size, 1, none⟩ = some (.string ⟨a_l3.toArray⟩) := by rw [World.cell?_alloc_new]; rfl
        by_cases hkn : 3 < n
        · have hki : (3 : Int) < (n : Int) := by omega
          have hne : (a_l3 == []) = false := by
            have := hnk (by omega)
            simpa using this
          have hne2 : a_l3.isEmpty = false := by
            have := hnk (by omega)
            cases h : a_l3 with
            | nil => exact absurd h this
            | cons _ _ => rfl
          cases hv : a_v3
          all_goals
            cases hg : getB l a_l3
            case' some t => obtain ⟨tv, tn⟩ := t; obtain rfl : tv = false := hone.out _ hg
            all_goals
              rw [hg] at HG9; simp only [gtV] at HG9
              subst hv
              clear hone hnk hkn HNP HGP HAT
              go_wp2_with fail
              refine HG9.mono ?_
              rintro e w5 ⟨rfl, hb⟩
              replace a2' := hb.cell a2'
              replace x0 := hb.cell x0
              replace x1 := hb.cell x1
              go_upto_region 7 with (fail)
              generalize hw7 : w5.alloc _ = w7
              have hs7 : Since w5 w7 := by rw [← hw7]; exact (Since.refl _).alloc _
              have z0 : w7.cell? ⟨w5.heap.size, 0, none⟩ = some (.bool false) := by rw [← hw7, World.cell?_alloc_new]; rfl
              replace a2' := hs7.cell a2'
              replace x0 := hs7.cell x0
              replace x1 := hs7.cell x1
              clear hw7
              go_wp2_with fail
              go_roundw
              case rel => exact ⟨3 + 1, by omega, by go_num, ((hSr.alloc _).trans hb).trans hs7⟩
              case measure => simp [intOf]
        · have hki : ¬ (3 : Int) < (n : Int) := by omega
          cases hg : getB l a_l3
          case' some t => obtain ⟨tv, tn⟩ := t
          all_goals
            rw [hg] at HG9; simp only [gtV] at HG9
            clear hone hnk hkn HNP HGP HAT
            go_wp2_with fail
            refine HG9.mono ?_
            rintro e w5 ⟨rfl, hb⟩
            replace a2' := hb.cell a2'
            replace x0 := hb.cell x0
            replace x1 := hb.cell x1
            go_upto_region 7 with (fail)
            generalize hw7 : w5.alloc _ = w7
            have hs7 : Since w5 w7 := by rw [← hw7]; exact (Since.refl _).alloc _
            replace a2' := hs7.cell a2'
            clear hw7
            go_wp2_with fail
            go_roundw
            case rel => exact ⟨3 + 1, by omega, by go_num, ((hSr.alloc _).trans hb).trans hs7⟩
            case measure => simp [intOf]
    · obtain rfl : k = 4 := by omega
      go_wp2_with fail
      refine (HCL.out _ (HV.out.next (hS.trans hSr))).mono ?_
      rintro e w6 ⟨ov, rfl, hov, hb⟩
      have hS6 := hS.trans (hSr.trans hb)
      have HA6 := Lib.hid (HA.out.next (hSr.trans hb))
      have HB6 := Lib.hid (HB.out.next (hSr.trans hb))
      have a_B := HA6.out
      obtain ⟨a_c0, a_c1, a_c2, a_c3, a_c4, a_c5, a_c6, a_c7, a_c8, a_c9, a_c10⟩ := a_B.all
      clear hb a2 a_B HCK HGT HCL HA HB
      go_wp2_with fail
      go_step3
      go_wp2_with fail
      clear a_c0 a_c1 a_c2 a_c3 a_c4 a_c5 a_c6 a_c7 a_c8 a_c9 a_c10
      go_loopw [12, 13, 73] (fun o f i wr => ∃ (k : Nat) (m : List Bnd), k ≤ n ∧ i = .int .i64 (k : Int) ∧ f = .bool true ∧ RowS wr o m ∧ bndN m ∧ m.length ≤ 500 + k ∧ Since w6 wr ∧ Hid (R = matchG (P.drop k) m)) (fun _ _ i _ => 4 - (intOf i).toNat)
      case atStart => exact ⟨0, l, by omega, rfl, rfl, hov, HLN.out, by omega, Since.refl _, hR0.out⟩
      case round =>
        clear hov hR0
        obtain ⟨k, m, hk, rfl, rfl, hom, hmn, hml, hSr2, hres⟩ := hrel
        have a2 : wr.cell? ⟨w.heap.size, 2, none⟩ = some (.int .i64 (n : Int)) := (HA6.out.next hSr2).n
        have hSw := hS6.trans hSr2
        by_cases hkn : k = n
        · have hRe : R = some m := by
            have hl := HPL.out
            rw [hres.out, List.drop_eq_nil_of_le (by omega)]; rfl
          clear hres
          clear HNP HGP HAT
          subst hkn
          by_cases hk4 : k < 4
          · rcases (show k = 0 ∨ k = 1 ∨ k = 2 ∨ k = 3 by omega) with rfl | rfl | rfl | rfl
            all_goals
              go_upto_region 15 with (fail)
              generalize hw7 : wr.alloc _ = w7
              have hs7 : Since wr w7 := by rw [← hw7]; exact (Since.refl _).alloc _
              replace a2 := hs7.cell a2
              replace hom := hom.next hs7
              clear hw7
              go_wp2_with fail
              go_ret2
              exact ⟨_, _, rfl, hSw.trans hs7, by rw [hRe]; exact ⟨rfl, hom⟩⟩
          · obtain rfl : k = 4 := by omega
            go_wp2_with fail
            go_ret2
            exact ⟨_, _, rfl, hSw, by rw [hRe]; exact ⟨rfl, hom⟩⟩
        · have hkn2 : k < n := by omega
          have hkni : ((k : Int) == (n : Int)) = false := by simp; omega
          obtain ⟨q0, q1⟩ := HAT.out k hkn2
          have hnm := HNP.out _ (List.getElem_mem q0)
          have hgm := HGP.out _ (List.getElem_mem q0)
          have hst : R = matchG (P[k] :: P.drop (k + 1)) m := by rw [hres.out, List.drop_eq_getElem_cons q0]
          rw [q1] at hnm hgm hst
          clear HNP HGP HAT hres q1 q0
          have hbx := (HB6.out.next hSr2)
          rcases (show k = 0 ∨ k = 1 ∨ k = 2 ∨ k = 3 by omega) with rfl | rfl | rfl | rfl
          · obtain ⟨oa, oc, rfl⟩ := hom.1.form
            have HG9 := Lib.hid (fun W (h : Since wr W) => get_any (.slice oa m.length oc) m a_l0 W (hom.1.next h) hmn.1.1 (by omega))
            have HBD := Lib.hid (fun W (h : Since wr W) (h1 : getB m a_l0 = none) (h2 : a_l0 ≠ []) (h3 : b_l0 ≠ []) => ubind_any (.slice oa m.length oc) m a_l0 false b_l0 false b_l0 W (hom.next h) hmn.1 (by omega) (termS_const m rfl) h2 h3 h1 (by simp))
            have HBN := Lib.hid (fun W (h : Since wr W) (h2 : a_l0 ≠ []) => ubind_noname (.slice oa m.length oc) m a_l0 false W (hom.next h) hmn.1 (by omega) h2)
            have hnm1 : a_l0 ≠ [] := hnm
            have hgm1 : b_v0 = false := hgm
            subst hgm1
            have hst1 : Hid (R = matchG (((a_v0, a_l0), (false, b_l0)) :: P.drop (0 + 1)) m) := hst
            have y0 : wr.cell? ⟨w.heap.size + 1, 3, none⟩ = some (.bool false) := hbx 3 (by simp [atmC])
            have y1 : wr.cell? ⟨w.heap.size + 1, 4, none⟩ = some (.string ⟨b_l0.toArray⟩) := hbx 4 (by simp [atmC])
            have HMN := Lib.hid hmn
            have HOM := Lib.hid hom
            clear hnm hgm hst hbx hmn hom
            go_upto_region 15 with (fail)
            generalize hw7 : wr.alloc _ = w7
            have hs7 : Since wr w7 := by rw [← hw7]; exact (Since.refl _).alloc _
            have x0 : w7.cell? ⟨wr.heap.size, 0, none⟩ = some (.bool a_v0) := by rw [← hw7, World.cell?_alloc_new]; rfl
            have x1 : w7.cell? ⟨wr.heap.size, 1, none⟩ = some (.string ⟨a_l0.toArray⟩) := by rw [← hw7, World.cell?_alloc_new]; rfl
            replace a2 := hs7.cell a2
            replace y0 := hs7.cell y0
            replace y1 := hs7.cell y1
            clear hw7
            go_upto_region 17 with (fail)
            generalize hw8 : w7.alloc _ = w8
            have hs8 : Since w7 w8 := by rw [← hw8]; exact (Since.refl _).alloc _
            have u0 : w8.cell? ⟨w7.heap.size, 0, none⟩ = some (.bool false) := by rw [← hw8, World.cell?_alloc_new]; rfl
            have u1 : w8.cell? ⟨w7.heap.size, 1, none⟩ = some (.string ⟨b_l0.toArray⟩) := by rw [← hw8, World.cell?_alloc_new]; rfl
            replace x0 := hs8.cell x0
            replace x1 := hs8.cell x1
            replace hs8 := hs7.trans hs8
            clear hw8 y0 y1 a2 hs7
            have hg9 := HG9.out w8 hs8
            cases hg : getB m a_l0
            case none =>
              rw [hg] at hg9; simp only [gtV] at hg9
              go_wp2_with fail
              refine hg9.mono ?_
              rintro e w9 ⟨rfl, hb⟩
              replace x0 := hb.cell x0
              replace x1 := hb.cell x1
              replace u0 := hb.cell u0
              replace u1 := hb.cell u1
              go_upto_region 20 with (fail)
              generalize hw10 : w9.alloc _ = w10
              have hs10 : Since w9 w10 := by rw [← hw10]; exact (Since.refl _).alloc _
              replace x0 := hs10.cell x0
              replace x1 := hs10.cell x1
              replace u0 := hs10.cell u0
              replace u1 := hs10.cell u1
              replace hs10 := (hs8.trans hb).trans hs10
              clear hw10 hb hg9 HG9 hs8
              cases hv : a_v0
              · subst hv
                cases he : eqT (false, a_l0) (false, b_l0)
                · have hRn : R = none := by rw [hst1.out, matchG, if_neg (by simp), if_neg (fun h => by have h2 := eqT_iff.2 h; (try simp only at h2); rw [he] at h2; cases h2)]
                  clear hst1
                  go_wp2_with fail
                  go_ret2
                  exact ⟨_, _, rfl, hSw.trans hs10, by rw [hRn]; exact ⟨rfl, rfl⟩⟩
                · have hRs : Hid (R = matchG (P.drop (0 + 1)) m) := by show _ = _; rw [hst1.out, matchG, if_neg (by simp), if_pos (eqT_iff.1 he)]
                  clear hst1
                  go_wp2_with fail
                  go_roundw
                  case rel => exact ⟨0 + 1, m, by omega, by go_num, rfl, HOM.out.next hs10, HMN.out, by omega, hSr2.trans hs10, hRs.out⟩
                  case measure => simp [intOf]
              · subst hv
                by_cases hnm2 : b_l0 = []
                · subst hnm2
                  have hRn : R = none := by rw [hst1.out, matchG, if_pos rfl]; simp only [hg]; exact if_pos trivial
                  have hbn := HBN.out w10 hs10 hnm1
                  clear hst1
                  go_wp2_with fail
                  refine hbn.mono ?_
                  rintro e w11 ⟨rfl, hb⟩
                  go_wp2_with fail
                  go_ret2
                  exact ⟨_, _, rfl, hSw.trans (hs10.trans hb), by rw [hRn]; exact ⟨rfl, rfl⟩⟩
                · have hRs : Hid (R = matchG (P.drop (0 + 1)) (bindP m a_l0 (false, b_l0))) := by show _ = _; rw [hst1.out, matchG, if_pos rfl]; simp only [hg]; rw [if_neg hnm2]
                  have hbn := HBD.out w10 hs10 hg hnm1 hnm2
                  have hbb := bndN.bind HMN.out (x := (false, b_l0)) rfl hnm1 hnm2 hg
                  have hbl := bind_len m a_l0 (false, b_l0)
                  have HBB := Lib.hid hbb
                  have HBL := Lib.hid hbl
                  clear hst1 hbb hbl
                  go_wp2_with fail
                  refine hbn.mono ?_
                  rintro e w11 ⟨nv, rfl, hnv, hb⟩
                  go_wp2_with fail
                  go_roundw
                  case rel => exact ⟨0 + 1, _, by omega, by go_num, rfl, hnv, HBB.out, by rw [HBL.out]; omega, hSr2.trans (hs10.trans hb), hRs.out⟩
                  case measure => simp [intOf]
            case some t =>
              obtain ⟨tv, tn⟩ := t
              rw [hg] at hg9; simp only [gtV] at hg9
              go_wp2_with fail
              refine hg9.mono ?_
              rintro e w9 ⟨rfl, hb⟩
              replace x0 := hb.cell x0
              replace x1 := hb.cell x1
              replace u0 := hb.cell u0
              replace u1 := hb.cell u1
              go_upto_region 20 with (fail)
              generalize hw10 : w9.alloc _ = w10
              have hs10 : Since w9 w10 := by rw [← hw10]; exact (Since.refl _).alloc _
              have z0 : w10.cell? ⟨w9.heap.size, 0, none⟩ = some (.bool tv) := by rw [← hw10, World.cell?_alloc_new]; rfl
              have z1 : w10.cell? ⟨w9.heap.size, 1, none⟩ = some (.string ⟨tn.toArray⟩) := by rw [← hw10, World.cell?_alloc_new]; rfl
              replace x0 := hs10.cell x0
              replace x1 := hs10.cell x1
              replace u0 := hs10.cell u0
              replace u1 := hs10.cell u1
              replace hs10 := (hs8.trans hb).trans hs10
              clear hw10 hb hg9 HG9 hs8
              cases hv : a_v0
              · subst hv
                cases he : eqT (false, a_l0) (false, b_l0)
                · have hRn : R = none := by rw [hst1.out, matchG, if_neg (by simp), if_neg (fun h => by have h2 := eqT_iff.2 h; (try simp only at h2); rw [he] at h2; cases h2)]
                  clear hst1
                  go_wp2_with fail
                  go_ret2
                  exact ⟨_, _, rfl, hSw.trans hs10, by rw [hRn]; exact ⟨rfl, rfl⟩⟩
                · have hRs : Hid (R = matchG (P.drop (0 + 1)) m) := by show _ = _; rw [hst1.out, matchG, if_neg (by simp), if_pos (eqT_iff.1 he)]
                  clear hst1
                  go_wp2_with fail
                  go_roundw
                  case rel => exact ⟨0 + 1, m, by omega, by go_num, rfl, HOM.out.next hs10, HMN.out, by omega, hSr2.trans hs10, hRs.out⟩
                  case measure => simp [intOf]
              · subst hv
                cases he : eqT (tv, tn) (false, b_l0)
                · have hRn : R = none := by rw [hst1.out, matchG, if_pos rfl]; simp only [hg]; rw [if_neg (fun h => by have h2 := eqT_iff.2 h; (try simp only at h2); rw [he] at h2; cases h2)]
                  clear hst1
                  go_wp2_with fail
                  go_ret2
                  exact ⟨_, _, rfl, hSw.trans hs10, by rw [hRn]; exact ⟨rfl, rfl⟩⟩
                · have hRs : Hid (R = matchG (P.drop (0 + 1)) m) := by show _ = _; rw [hst1.out, matchG, if_pos rfl]; simp only [hg]; rw [if_pos (eqT_iff.1 he)]
                  clear hst1
                  go_wp2_with fail
                  go_roundw
                  case rel => exact ⟨0 + 1, m, by omega, by go_num, rfl, HOM.out.next hs10, HMN.out, by omega, hSr2.trans hs10, hRs.out⟩
                  case measure => simp [intOf]
          · obtain ⟨oa, oc, rfl⟩ := hom.1.form
            have HG9 := Lib.hid (fun W (h : Since wr W) => get_any (.slice oa m.length oc) m a_l1 W (hom.1.next h) hmn.1.1 (by omega))
            have HBD := Lib.hid (fun W (h : Since wr W) (h1 : getB m a_l1 = none) (h2 : a_l1 ≠ []) (h3 : b_l1 ≠ []) => ubind_any (.slice oa m.length oc) m a_l1 false b_l1 false b_l1 W (hom.next h) hmn.1 (by omega) (termS_const m rfl) h2 h3 h1 (by simp))
            have HBN := Lib.hid (fun W (h : Since wr W) (h2 : a_l1 ≠ []) => ubind_noname (.slice oa m.length oc) m a_l1 false W (hom.next h) hmn.1 (by omega) h2)
            have hnm1 : a_l1 ≠ [] := hnm
            have hgm1 : b_v1 = false := hgm
            subst hgm1
            have hst1 : Hid (R = matchG (((a_v1, a_l1), (false, b_l1)) :: P.drop (1 + 1)) m) := hst
            have y0 : wr.cell? ⟨w.heap.size + 1, 5, none⟩ = some (.bool false) := hbx 5 (by simp [atmC])
            have y1 : wr.cell? ⟨w.heap.size + 1, 6, none⟩ = some (.string ⟨b_l1.toArray⟩) := hbx 6 (by simp [atmC])
            have HMN := Lib.hid hmn
            have HOM := Lib.hid hom
            clear hnm hgm hst hbx hmn hom
            go_upto_region 15 with (fail)
            generalize hw7 : wr.alloc _ = w7
            have hs7 : Since wr w7 := by rw [← hw7]; exact (Since.refl _).alloc _
            have x0 : w7.cell? ⟨wr.heap.size, 0, none⟩ = some (.bool a_v1) := by rw [← hw7, World.cell?_alloc_new]; rfl
            have x1 : w7.cell? ⟨wr.heap.size, 1, none⟩ = some (.string ⟨a_l1.toArray⟩) := by rw [← hw7, World.cell?_alloc_new]; rfl
            replace a2 := hs7.cell a2
            replace y0 := hs7.cell y0
            replace y1 := hs7.cell y1
            clear hw7
            go_upto_region 17 with (fail)
            generalize hw8 : w7.alloc _ = w8
            have hs8 : Since w7 w8 := by rw [← hw8]; exact (Since.refl _).alloc _
            have u0 : w8.cell? ⟨w7.heap.size, 0, none⟩ = some (.bool false) := by rw [← hw8, World.cell?_alloc_new]; rfl
            have u1 : w8.cell? ⟨w7.heap.size, 1, none⟩ = some (.string ⟨b_l1.toArray⟩) := by rw [← hw8, World.cell?_alloc_new]; rfl
            replace x0 := hs8.cell x0
            replace x1 := hs8.cell x1
            replace hs8 := hs7.trans hs8
            clear hw8 y0 y1 a2 hs7
            have hg9 := HG9.out w8 hs8
            cases hg : getB m a_l1
            case none =>
              rw [hg] at hg9; simp only [gtV] at hg9
              go_wp2_with fail
              refine hg9.mono ?_
              rintro e w9 ⟨rfl, hb⟩
              replace x0 := hb.cell x0
              replace x1 := hb.cell x1
              replace u0 := hb.cell u0
              replace u1 := hb.cell u1
              go_upto_region 20 with (fail)
              generalize hw10 : w9.alloc _ = w10
              have hs10 : Since w9 w10 := by rw [← hw10]; exact (Since.refl _).alloc _
              replace x0 := hs10.cell x0
              replace x1 := hs10.cell x1
              replace u0 := hs10.cell u0
              replace u1 := hs10.cell u1
              replace hs10 := (hs8.trans hb).trans hs10
              clear hw10 hb hg9 HG9 hs8
              cases hv : a_v1
              · subst hv
                cases he : eqT (false, a_l1) (false, b_l1)
                · have hRn : R = none := by rw [hst1.out, matchG, if_neg (by simp), if_neg (fun h => by have h2 := eqT_iff.2 h; (try simp only at h2); rw [he] at h2; cases h2)]
                  clear hst1
                  go_wp2_with fail
                  go_ret2
                  exact ⟨_, _, rfl, hSw.trans hs10, by rw [hRn]; exact ⟨rfl, rfl⟩⟩
                · have hRs : Hid (R = matchG (P.drop (1 + 1)) m) := by show _ = _; rw [hst1.out, matchG, if_neg (by simp), if_pos (eqT_iff.1 he)]
                  clear hst1
                  go_wp2_with fail
                  go_roundw
                  case rel => exact ⟨1 + 1, m, by omega, by go_num, rfl, HOM.out.next hs10, HMN.out, by omega, hSr2.trans hs10, hRs.out⟩
                  case measure => simp [intOf]
              · subst hv
                by_cases hnm2 : b_l1 = []
                · subst hnm2
                  have hRn : R = none := by rw [hst1.out, matchG, if_pos rfl]; simp only [hg]; exact if_pos trivial
                  have hbn := HBN.out w10 hs10 hnm1
                  clear hst1
                  go_wp2_with fail
                  refine hbn.mono ?_
                  rintro e w11 ⟨rfl, hb⟩
                  go_wp2_with fail
                  go_ret2
                  exact ⟨_, _, rfl, hSw.trans (hs10.trans hb), by rw [hRn]; exact ⟨rfl, rfl⟩⟩
                · have hRs : Hid (R = matchG (P.drop (1 + 1)) (bindP m a_l1 (false, b_l1))) := by show _ = _; rw [hst1.out, matchG, if_pos rfl]; simp only [hg]; rw [if_neg hnm2]
                  have hbn := HBD.out w10 hs10 hg hnm1 hnm2
                  have hbb := bndN.bind HMN.out (x := (false, b_l1)) rfl hnm1 hnm2 hg
                  have hbl := bind_len m a_l1 (false, b_l1)
                  have HBB := Lib.hid hbb
                  have HBL := Lib.hid hbl
                  clear hst1 hbb hbl
                  go_wp2_with fail
                  refine hbn.mono ?_
                  rintro e w11 ⟨nv, rfl, hnv, hb⟩
                  go_wp2_with fail
                  go_roundw
                  case rel => exact ⟨1 + 1, _, by omega, by go_num, rfl, hnv, HBB.out, by rw [HBL.out]; omega, hSr2.trans (hs10.trans hb), hRs.out⟩
                  case measure => simp [intOf]
            case some t =>
              obtain ⟨tv, tn⟩ := t
              rw [hg] at hg9; simp only [gtV] at hg9
              go_wp2_with fail
              refine hg9.mono ?_
              rintro e w9 ⟨rfl, hb⟩
              replace x0 := hb.cell x0
              replace x1 := hb.cell x1
              replace u0 := hb.cell u0
              replace u1 := hb.cell u1
              go_upto_region 20 with (fail)
              generalize hw10 : w9.alloc _ = w10
              have hs10 : Since w9 w10 := by rw [← hw10]; exact (Since.refl _).alloc _
              have z0 : w10.cell? ⟨w9.heap.size, 0, none⟩ = some (.bool tv) := by rw [← hw10, World.cell?_alloc_new]; rfl
              have z1 : w10.cell? ⟨w9.heap.size, 1, none⟩ = some (.string ⟨tn.toArray⟩) := by rw [← hw10, World.cell?_alloc_new]; rfl
              replace x0 := hs10.cell x0
              replace x1 := hs10.cell x1
              replace u0 := hs10.cell u0
              replace u1 := hs10.cell u1
              replace hs10 := (hs8.trans hb).trans hs10
              clear hw10 hb hg9 HG9 hs8
              cases hv : a_v1
              · subst hv
                cases he : eqT (false, a_l1) (false, b_l1)
                · have hRn : R = none := by rw [hst1.out, matchG, if_neg (by simp), if_neg (fun h => by have h2 := eqT_iff.2 h; (try simp only at h2); rw [he] at h2; cases h2)]
                  clear hst1
                  go_wp2_with fail
                  go_ret2
                  exact ⟨_, _, rfl, hSw.trans hs10, by rw [hRn]; exact ⟨rfl, rfl⟩⟩
                · have hRs : Hid (R = matchG (P.drop (1 + 1)) m) := by show _ = _; rw [hst1.out, matchG, if_neg (by simp), if_pos (eqT_iff.1 he)]
                  clear hst1
                  go_wp2_with fail
                  go_roundw
                  case rel => exact ⟨1 + 1, m, by omega, by go_num, rfl, HOM.out.next hs10, HMN.out, by omega, hSr2.trans hs10, hRs.out⟩
                  case measure => simp [intOf]
              · subst hv
                cases he : eqT (tv, tn) (false, b_l1)
                · have hRn : R = none := by rw [hst1.out, matchG, if_pos rfl]; simp only [hg]; rw [if_neg (fun h => by have h2 := eqT_iff.2 h; (try simp only at h2); rw [he] at h2; cases h2)]
                  clear hst1
                  go_wp2_with fail
                  go_ret2
                  exact ⟨_, _, rfl, hSw.trans hs10, by rw [hRn]; exact ⟨rfl, rfl⟩⟩
                · have hRs : Hid (R = matchG (P.drop (1 + 1)) m) := by show _ = _; rw [hst1.out, matchG, if_pos rfl]; simp only [hg]; rw [if_pos (eqT_iff.1 he)]
                  clear hst1
                  go_wp2_with fail
                  go_roundw
                  case rel => exact ⟨1 + 1, m, by omega, by go_num, rfl, HOM.out.next hs10, HMN.out, by omega, hSr2.trans hs10, hRs.out⟩
                  case measure => simp [intOf]
          · obtain ⟨oa, oc, rfl⟩ := hom.1.form
            have HG9 := Lib.hid (fun W (h : Since wr W) => get_any (.slice oa m.length oc) m a_l2 W (hom.1.next h) hmn.1.1 (by omega))
            have HBD := Lib.hid (fun W (h : Since wr W) (h1 : getB m a_l2 = none) (h2 : a_l2 ≠ []) (h3 : b_l2 ≠ []) => ubind_any (.slice oa m.length oc) m a_l2 false b_l2 false b_l2 W (hom.next h) hmn.1 (by omega) (termS_const m rfl) h2 h3 h1 (by simp))
            have HBN := Lib.hid (fun W (h : Since wr W) (h2 : a_l2 ≠ []) => ubind_noname (.slice oa m.length oc) m a_l2 false W (hom.next h) hmn.1 (by omega) h2)
            have hnm1 : a_l2 ≠ [] := hnm
            have hgm1 : b_v2 = false := hgm
            subst hgm1
            have hst1 : Hid (R = matchG (((a_v2, a_l2), (false, b_l2)) :: P.drop (2 + 1)) m) := hst
            have y0 : wr.cell? ⟨w.heap.size + 1, 7, none⟩ = some (.bool false) := hbx 7 (by simp [atmC])
            have y1 : wr.cell? ⟨w.heap.size + 1, 8, none⟩ = some (.string ⟨b_l2.toArray⟩) := hbx 8 (by simp [atmC])
            have HMN := Lib.hid hmn
            have HOM := Lib.hid hom
            clear hnm hgm hst hbx hmn hom
            go_upto_region 15 with (fail)
            generalize hw7 : wr.alloc _ = w7
            have hs7 : Since wr w7 := by rw [← hw7]; exact (Since.refl _).alloc _
            have x0 : w7.cell? ⟨wr.heap.size, 0, none⟩ = some (.bool a_v2) := by rw [← hw7, World.cell?_alloc_new]; rfl
            have x1 : w7.cell? ⟨wr.heap.size, 1, none⟩ = some (.string ⟨a_l2.toArray⟩) := by rw [← hw7, World.cell?_alloc_new]; rfl
            replace a2 := hs7.cell a2
            replace y0 := hs7.cell y0
            replace y1 := hs7.cell y1
            clear hw7
            go_upto_region 17 with (fail)
            generalize hw8 : w7.alloc _ = w8
            have hs8 : Since w7 w8 := by rw [← hw8]; exact (Since.refl _).alloc _
            have u0 : w8.cell? ⟨w7.heap.size, 0, none⟩ = some (.bool false) := by rw [← hw8, World.cell?_alloc_new]; rfl
            have u1 : w8.cell? ⟨w7.heap.size, 1, none⟩ = some (.string ⟨b_l2.toArray⟩) := by rw [← hw8, World.cell?_alloc_new]; rfl
            replace x0 := hs8.cell x0
            replace x1 := hs8.cell x1
            replace hs8 := hs7.trans hs8
            clear hw8 y0 y1 a2 hs7
            have hg9 := HG9.out w8 hs8
            cases hg : getB m a_l2
            case none =>
              rw [hg] at hg9; simp only [gtV] at hg9
              go_wp2_with fail
              refine hg9.mono ?_
              rintro e w9 ⟨rfl, hb⟩
              replace x0 := hb.cell x0
              replace x1 := hb.cell x1
              replace u0 := hb.cell u0
              replace u1 := hb.cell u1
              go_upto_region 20 with (fail)
              generalize hw10 : w9.alloc _ = w10
              have hs10 : Since w9 w10 := by rw [← hw10]; exact (Since.refl _).alloc _
              replace x0 := hs10.cell x0
              replace x1 := hs10.cell x1
              replace u0 := hs10.cell u0
              replace u1 := hs10.cell u1
              replace hs10 := (hs8.trans hb).trans hs10
              clear hw10 hb hg9 HG9 hs8
              cases hv : a_v2
              · subst hv
                cases he : eqT (false, a_l2) (false, b_l2)
                · have hRn : R = none := by rw [hst1.out, matchG, if_neg (by simp), if_neg (fun h => by have h2 := eqT_iff.2 h; (try simp only at h2); rw [he] at h2; cases h2)]
                  clear hst1
                  go_wp2_with fail
                  go_ret2
                  exact ⟨_, _, rfl, hSw.trans hs10, by rw [hRn]; exact ⟨rfl, rfl⟩⟩
                · have hRs : Hid (R = matchG (P.drop (2 + 1)) m) := by show _ = _; rw [hst1.out, matchG, if_neg (by simp), if_pos (eqT_iff.1 he)]
                  clear hst1
                  go_wp2_with fail
                  go_roundw
                  case rel => exact ⟨2 + 1, m, by omega, by go_num, rfl, HOM.out.next hs10, HMN.out, by omega, hSr2.trans hs10, hRs.out⟩
                  case measure => simp [intOf]
              · subst hv
                by_cases hnm2 : b_l2 = []
                · subst hnm2
                  have hRn : R = none := by rw [hst1.out, matchG, if_pos rfl]; simp only [hg]; exact if_pos trivial
                  have hbn := HBN.out w10 hs10 hnm1
                  clear hst1
                  go_wp2_with fail
                  refine hbn.mono ?_
                  rintro e w11 ⟨rfl, hb⟩
                  go_wp2_with fail
                  go_ret2
                  exact ⟨_, _, rfl, hSw.trans (hs10.trans hb), by rw [hRn]; exact ⟨rfl, rfl⟩⟩
                · have hRs : Hid (R = matchG (P.drop (2 + 1)) (bindP m a_l2 (false, b_l2))) := by show _ = _; rw [hst1.out, matchG, if_pos rfl]; simp only [hg]; rw [if_neg hnm2]
                  have hbn := HBD.out w10 hs10 hg hnm1 hnm2
                  have hbb := bndN.bind HMN.out (x := (false, b_l2)) rfl hnm1 hnm2 hg
                  have hbl := bind_len m a_l2 (false, b_l2)
                  have HBB := Lib.hid hbb
                  have HBL := Lib.hid hbl
                  clear hst1 hbb hbl
                  go_wp2_with fail
                  refine hbn.mono ?_
                  rintro e w11 ⟨nv, rfl, hnv, hb⟩
                  go_wp2_with fail
                  go_roundw
                  case rel => exact ⟨2 + 1, _, by omega, by go_num, rfl, hnv, HBB.out, by rw [HBL.out]; omega, hSr2.trans (hs10.trans hb), hRs.out⟩
                  case measure => simp [intOf]
            case some t =>
              obtain ⟨tv, tn⟩ := t
              rw [hg] at hg9; simp only [gtV] at hg9
              go_wp2_with fail
              refine hg9.mono ?_
              rintro e w9 ⟨rfl, hb⟩
              replace x0 := hb.cell x0
              replace x1 := hb.cell x1
              replace u0 := hb.cell u0
              replace u1 := hb.cell u1
              go_upto_region 20 with (fail)
              generalize hw10 : w9.alloc _ = w10
              have hs10 : Since w9 w10 := by rw [← hw10]; exact (Since.refl _).alloc _
              have z0 : w10.cell? ⟨w9.heap.size, 0, none⟩ = some (.bool tv) := by rw [← hw10, World.cell?_alloc_new]; rfl
              have z1 : w10.cell? ⟨w9.heap.size, 1, none⟩ = some (.string ⟨tn.toArray⟩) := by rw [← hw10, World.cell?_alloc_new]; rfl
              replace x0 := hs10.cell x0
              replace x1 := hs10.cell x1
              replace u0 := hs10.cell u0
              replace u1 := hs10.cell u1
              replace hs10 := (hs8.trans hb).trans hs10
              clear hw10 hb hg9 HG9 hs8
              cases hv : a_v2
              · subst hv
                cases he : eqT (false, a_l2) (false, b_l2)
                · have hRn : R = none := by rw [hst1.out, matchG, if_neg (by simp), if_neg (fun h => by have h2 := eqT_iff.2 h; (try simp only at h2); rw [he] at h2; cases h2)]
                  clear hst1
                  go_wp2_with fail
                  go_ret2
                  exact ⟨_, _, rfl, hSw.trans hs10, by rw [hRn]; exact ⟨rfl, rfl⟩⟩
                · have hRs : Hid (R = matchG (P.drop (2 + 1)) m) := by show _ = _; rw [hst1.out, matchG, if_neg (by simp), if_pos (eqT_iff.1 he)]
                  clear hst1
                  go_wp2_with fail
                  go_roundw
                  case rel => exact ⟨2 + 1, m, by omega, by go_num, rfl, HOM.out.next hs10, HMN.out, by omega, hSr2.trans hs10, hRs.out⟩
                  case measure => simp [intOf]
              · subst hv
                cases he : eqT (tv, tn) (false, b_l2)
                · have hRn : R = none := by rw [hst1.out, matchG, if_pos rfl]; simp only [hg]; rw [if_neg (fun h => by have h2 := eqT_iff.2 h; (try simp only at h2); rw [he] at h2; cases h2)]
                  clear hst1
                  go_wp2_with fail
                  go_ret2
                  exact ⟨_, _, rfl, hSw.trans hs10, by rw [hRn]; exact ⟨rfl, rfl⟩⟩
                · have hRs : Hid (R = matchG (P.drop (2 + 1)) m) := by show _ = _; rw [hst1.out, matchG, if_pos rfl]; simp only [hg]; rw [if_pos (eqT_iff.1 he)]
                  clear hst1
                  go_wp2_with fail
                  go_roundw
                  case rel => exact ⟨2 + 1, m, by omega, by go_num, rfl, HOM.out.next hs10, HMN.out, by omega, hSr2.trans hs10, hRs.out⟩
                  case measure => simp [intOf]
          · obtain ⟨oa, oc, rfl⟩ := hom.1.form
            have HG9 := Lib.hid (fun W (h : Since wr W) => get_any (.slice oa m.length oc) m a_l3 W (hom.1.next h) hmn.1.1 (by omega))
            have HBD := Lib.hid (fun W (h : Since wr W) (h1 : getB m a_l3 = none) (h2 : a_l3 ≠ []) (h3 : b_l3 ≠ []) => ubind_any (.slice oa m.length oc) m a_l3 false b_l3 false b_l3 W (hom.next h) hmn.1 (by omega) (termS_const m rfl) h2 h3 h1 (by simp))
            have HBN := Lib.hid (fun W (h : Since wr W) (h2 : a_l3 ≠ []) => ubind_noname (.slice oa m.length oc) m a_l3 false W (hom.next h) hmn.1 (by omega) h2)
            have hnm1 : a_l3 ≠ [] := hnm
            have hgm1 : b_v3 = false := hgm
            subst hgm1
            have hst1 : Hid (R = matchG (((a_v3, a_l3), (false, b_l3)) :: P.drop (3 + 1)) m) := hst
            have y0 : wr.cell? ⟨w.heap.size + 1, 9, none⟩ = some (.bool false) := hbx 9 (by simp [atmC])
            have y1 : wr.cell? ⟨w.heap.size + 1, 10, none⟩ = some (.string ⟨b_l3.toArray⟩) := hbx 10 (by simp [atmC])
            have HMN := Lib.hid hmn
            have HOM := Lib.hid hom
            clear hnm hgm hst hbx hmn hom
            go_upto_region 15 with (fail)
            generalize hw7 : wr.alloc _ = w7
            have hs7 : Since wr w7 := by rw [← hw7]; exact (Since.refl _).alloc _
            have x0 : w7.cell? ⟨wr.heap.size, 0, none⟩ = some (.bool a_v3) := by rw [← hw7, World.cell?_alloc_new]; rfl
            have x1 : w7.cell? ⟨wr.heap.size, 1, none⟩ = some (.string ⟨a_l3.toArray⟩) := by rw [← hw7, World.cell?_alloc_new]; rfl
            replace a2 := hs7.cell a2
            replace y0 := hs7.cell y0
            replace y1 := hs7.cell y1
            clear hw7
            go_upto_region 17 with (fail)
            generalize hw8 : w7.alloc _ = w8
            have hs8 : Since w7 w8 := by rw [← hw8]; exact (Since.refl _).alloc _
            have u0 : w8.cell? ⟨w7.heap.size, 0, none⟩ = some (.bool false) := by rw [← hw8, World.cell?_alloc_new]; rfl
            have u1 : w8.cell? ⟨w7.heap.size, 1, none⟩ = some (.string ⟨b_l3.toArray⟩) := by rw [← hw8, World.cell?_alloc_new]; rfl
            replace x0 := hs8.cell x0
            replace x1 := hs8.cell x1
            replace hs8 := hs7.trans hs8
            clear hw8 y0 y1 a2 hs7
            have hg9 := HG9.out w8 hs8
            cases hg : getB m a_l3
            case none =>
              rw [hg] at hg9; simp only [gtV] at hg9
              go_wp2_with fail
              refine hg9.mono ?_
              rintro e w9 ⟨rfl, hb⟩
              replace x0 := hb.cell x0
              replace x1 := hb.cell x1
              replace u0 := hb.cell u0
              replace u1 := hb.cell u1
              go_upto_region 20 with (fail)
              generalize hw10 : w9.alloc _ = w10
              have hs10 : Since w9 w10 := by rw [← hw10]; exact (Since.refl _).alloc _
              replace x0 := hs10.cell x0
              replace x1 := hs10.cell x1
              replace u0 := hs10.cell u0
              replace u1 := hs10.cell u1
              replace hs10 := (hs8.trans hb).trans hs10
              clear hw10 hb hg9 HG9 hs8
              cases hv : a_v3
              · subst hv
                cases he : eqT (false, a_l3) (false, b_l3)
                · have hRn : R = none := by rw [hst1.out, matchG, if_neg (by simp), if_neg (fun h => by have h2 := eqT_iff.2 h; (try simp only at h2); rw [he] at h2; cases h2)]
                  clear hst1
                  go_wp2_with fail
                  go_ret2
                  exact ⟨_, _, rfl, hSw.trans hs10, by rw [hRn]; exact ⟨rfl, rfl⟩⟩
                · have hRs : Hid (R = matchG (P.drop (3 + 1)) m) := by show _ = _; rw [hst1.out, matchG, if_neg (by simp), if_pos (eqT_iff.1 he)]
                  clear hst1
                  go_wp2_with fail
                  go_roundw
                  case rel => exact ⟨3 + 1, m, by omega, by go_num, rfl, HOM.out.next hs10, HMN.out, by omega, hSr2.trans hs10, hRs.out⟩
                  case measure => simp [intOf]
              · subst hv
                by_cases hnm2 : b_l3 = []
                · subst hnm2
                  have hRn : R = none := by rw [hst1.out, matchG, if_pos rfl]; simp only [hg]; exact if_pos trivial
                  have hbn := HBN.out w10 hs10 hnm1
                  clear hst1
                  go_wp2_with fail
                  refine hbn.mono ?_
                  rintro e w11 ⟨rfl, hb⟩
                  go_wp2_with fail
                  go_ret2
                  exact ⟨_, _, rfl, hSw.trans (hs10.trans hb), by rw [hRn]; exact ⟨rfl, rfl⟩⟩
                · have hRs : Hid (R = matchG (P.drop (3 + 1)) (bindP m a_l3 (false, b_l3))) := by show _ = _; rw [hst1.out, matchG, if_pos rfl]; simp only [hg]; rw [if_neg hnm2]
                  have hbn := HBD.out w10 hs10 hg hnm1 hnm2
                  have hbb := bndN.bind HMN.out (x := (false, b_l3)) rfl hnm1 hnm2 hg
                  have hbl := bind_len m a_l3 (false, b_l3)
                  have HBB := Lib.hid hbb
                  have HBL := Lib.hid hbl
                  clear hst1 hbb hbl
                  go_wp2_with fail
                  refine hbn.mono ?_
                  rintro e w11 ⟨nv, rfl, hnv, hb⟩
                  go_wp2_with fail
                  go_roundw
                  case rel => exact ⟨3 + 1, _, by omega, by go_num, rfl, hnv, HBB.out, by rw [HBL.out]; omega, hSr2.trans (hs10.trans hb), hRs.out⟩
                  case measure => simp [intOf]
            case some t =>
              obtain ⟨tv, tn⟩ := t
              rw [hg] at hg9; simp only [gtV] at hg9
              go_wp2_with fail
              refine hg9.mono ?_
              rintro e w9 ⟨rfl, hb⟩
              replace x0 := hb.cell x0
              replace x1 := hb.cell x1
              replace u0 := hb.cell u0
              replace u1 := hb.cell u1
              go_upto_region 20 with (fail)
              generalize hw10 : w9.alloc _ = w10
              have hs10 : Since w9 w10 := by rw [← hw10]; exact (Since.refl _).alloc _
              have z0 : w10.cell? ⟨w9.heap.size, 0, none⟩ = some (.bool tv) := by rw [← hw10, World.cell?_alloc_new]; rfl
              have z1 : w10.cell? ⟨w9.heap.size, 1, none⟩ = some (.string ⟨tn.toArray⟩) := by rw [← hw10, World.cell?_alloc_new]; rfl
              replace x0 := hs10.cell x0
              replace x1 := hs10.cell x1
              replace u0 := hs10.cell u0
              replace u1 := hs10.cell u1
              replace hs10 := (hs8.trans hb).trans hs10
              clear hw10 hb hg9 HG9 hs8
              cases hv : a_v3
              · subst hv
                cases he : eqT (false, a_l3) (false, b_l3)
                · have hRn : R = none := by rw [hst1.out, matchG, if_neg (by simp), if_neg (fun h => by have h2 := eqT_iff.2 h; (try simp only at h2); rw [he] at h2; cases h2)]
                  clear hst1
                  go_wp2_with fail
                  go_ret2
                  exact ⟨_, _, rfl, hSw.trans hs10, by rw [hRn]; exact ⟨rfl, rfl⟩⟩
                · have hRs : Hid (R = matchG (P.drop (3 + 1)) m) := by show _ = _; rw [hst1.out, matchG, if_neg (by simp), if_pos (eqT_iff.1 he)]
                  clear hst1
                  go_wp2_with fail
                  go_roundw
                  case rel => exact ⟨3 + 1, m, by omega, by go_num, rfl, HOM.out.next hs10, HMN.out, by omega, hSr2.trans hs10, hRs.out⟩
                  case measure => simp [intOf]
              · subst hv
                cases he : eqT (tv, tn) (false, b_l3)
                · have hRn : R = none := by rw [hst1.out, matchG, if_pos rfl]; simp only [hg]; rw [if_neg (fun h => by have h2 := eqT_iff.2 h; (try simp only at h2); rw [he] at h2; cases h2)]
                  clear hst1
                  go_wp2_with fail
                  go_ret2
                  exact ⟨_, _, rfl, hSw.trans hs10, by rw [hRn]; exact ⟨rfl, rfl⟩⟩
                · have hRs : Hid (R = matchG (P.drop (3 + 1)) m) := by show _ = _; rw [hst1.out, matchG, if_pos rfl]; simp only [hg]; rw [if_pos (eqT_iff.1 he)]
                  clear hst1
                  go_wp2_with fail
                  go_roundw
                  case rel => exact ⟨3 + 1, m, by omega, by go_num, rfl, HOM.out.next hs10, HMN.out, by omega, hSr2.trans hs10, hRs.out⟩
                  case measure => simp [intOf]
set_option maxHeartbeats 4000000 in
set_option maxRecDepth 100000 in
theorem mextend_no (a_s a_p : List UInt8) (a_n : Int) (a_v0 a_v1 a_v2 a_v3 : Bool) (a_l0 a_l1 a_l2 a_l3 : List UInt8) (b_s b_p : List UInt8) (b_n : Int) (b_v0 b_v1 b_v2 b_v3 : Bool) (b_l0 b_l1 b_l2 b_l3 : List UInt8) (h : ¬ (a_s = b_s ∧ a_p = b_p ∧ a_n = b_n)) (v : Value) (l : List Bnd) (w : World) (hv : RowS w v l) (hl : bndN l) (hll : l.length ≤ 500) :
    Calls Tryz.prog 56 #[v, .agg #[.string ⟨a_s.toArray⟩, .string ⟨a_p.toArray⟩, .int .i64 a_n, .bool a_v0, .string ⟨a_l0.toArray⟩, .bool a_v1, .string ⟨a_l1.toArray⟩, .bool a_v2, .string ⟨a_l2.toArray⟩, .bool a_v3, .string ⟨a_l3.toArray⟩], .agg #[.string ⟨b_s.toArray⟩, .string ⟨b_p.toArray⟩, .int .i64 b_n, .bool b_v0, .string ⟨b_l0.toArray⟩, .bool b_v1, .string ⟨b_l1.toArray⟩, .bool b_v2, .string ⟨b_l2.toArray⟩, .bool b_v3, .string ⟨b_l3.toArray⟩]] w (MatchP none w) := by
  obtain ⟨va, vc, rfl⟩ := hv.1.form
  have HAL := Lib.hid (fun W => malike_no a_s a_p a_n a_v0 a_v1 a_v2 a_v3 a_l0 a_l1 a_l2 a_l3 b_s b_p b_n b_v0 b_v1 b_v2 b_v3 b_l0 b_l1 b_l2 b_l3 h W)
  have HCK := Lib.hid (fun W (h : RowS W (.slice va l.length vc) l) => ucheck_any (.slice va l.length vc) l W h.1 hl.1 (by omega))
  have hS : Since w ((w.alloc (.cells #[.string ⟨a_s.toArray⟩, .string ⟨a_p.toArray⟩, .int .i64 a_n, .bool a_v0, .string ⟨a_l0.toArray⟩, .bool a_v1, .string ⟨a_l1.toArray⟩, .bool a_v2, .string ⟨a_l2.toArray⟩, .bool a_v3, .string ⟨a_l3.toArray⟩] 33)).alloc (.cells #[.string ⟨b_s.toArray⟩, .string ⟨b_p.toArray⟩, .int .i64 b_n, .bool b_v0, .string ⟨b_l0.toArray⟩, .bool b_v1, .string ⟨b_l1.toArray⟩, .bool b_v2, .string ⟨b_l2.toArray⟩, .bool b_v3, .string ⟨b_l3.toArray⟩] 33)) := ((Since.refl _).alloc _).alloc _
  have a_B : Box ((w.alloc (.cells #[.string ⟨a_s.toArray⟩, .string ⟨a_p.toArray⟩, .int .i64 a_n, .bool a_v0, .string ⟨a_l0.toArray⟩, .bool a_v1, .string ⟨a_l1.toArray⟩, .bool a_v2, .string ⟨a_l2.toArray⟩, .bool a_v3, .string ⟨a_l3.toArray⟩] 33)).alloc (.cells #[.string ⟨b_s.toArray⟩, .string ⟨b_p.toArray⟩, .int .i64 b_n, .bool b_v0, .string ⟨b_l0.toArray⟩, .bool b_v1, .string ⟨b_l1.toArray⟩, .bool b_v2, .string ⟨b_l2.toArray⟩, .bool b_v3, .string ⟨b_l3.toArray⟩] 33)) w.heap.size ((a_s, a_p, a_n, (a_v0, a_l0), (a_v1, a_l1), (a_v2, a_l2), (a_v3, a_l3)) : Atm) := (box_new w ((a_s, a_p, a_n, (a_v0, a_l0), (a_v1, a_l1), (a_v2, a_l2), (a_v3, a_l3)) : Atm) _).next ((Since.refl _).alloc _)
  have b_B : Box ((w.alloc (.cells #[.string ⟨a_s.toArray⟩, .string ⟨a_p.toArray⟩, .int .i64 a_n, .bool a_v0, .string ⟨a_l0.toArray⟩, .bool a_v1, .string ⟨a_l1.toArray⟩, .bool a_v2, .string ⟨a_l2.toArray⟩, .bool a_v3, .string ⟨a_l3.toArray⟩] 33)).alloc (.cells #[.string ⟨b_s.toArray⟩, .string ⟨b_p.toArray⟩, .int .i64 b_n, .bool b_v0, .string ⟨b_l0.toArray⟩, .bool b_v1, .string ⟨b_l1.toArray⟩, .bool b_v2, .string ⟨b_l2.toArray⟩, .bool b_v3, .string ⟨b_l3.toArray⟩] 33)) (w.heap.size + 1) ((b_s, b_p, b_n, (b_v0, b_l0), (b_v1, b_l1), (b_v2, b_l2), (b_v3, b_l3)) : Atm) := by
    have := box_new (w.alloc (.cells #[.string ⟨a_s.toArray⟩, .string ⟨a_p.toArray⟩, .int .i64 a_n, .bool a_v0, .string ⟨a_l0.toArray⟩, .bool a_v1, .string ⟨a_l1.toArray⟩, .bool a_v2, .string ⟨a_l2.toArray⟩, .bool a_v3, .string ⟨a_l3.toArray⟩] 33)) ((b_s, b_p, b_n, (b_v0, b_l0), (b_v1, b_l1), (b_v2, b_l2), (b_v3, b_l3)) : Atm) 33
    rwa [World.size_alloc] at this
  obtain ⟨a_c0, a_c1, a_c2, a_c3, a_c4, a_c5, a_c6, a_c7, a_c8, a_c9, a_c10⟩ := a_B.all
  obtain ⟨b_c0, b_c1, b_c2, b_c3, b_c4, b_c5, b_c6, b_c7, b_c8, b_c9, b_c10⟩ := b_B.all
  have HV := Lib.hid hv
  clear h hl hll hv
  go_enter Tryz.func56, Tryz.ntmps56
  go_wp2_with fail
  go_step3
  go_wp2_with fail
  refine (HCK.out _ (HV.out.next hS)).mono ?_
  rintro e w1 ⟨rfl, hb⟩
  replace hS := hS.trans hb
  replace a_B := a_B.next hb; replace a_c0 := hb.cell a_c0; replace a_c1 := hb.cell a_c1; replace a_c2 := hb.cell a_c2; replace a_c3 := hb.cell a_c3; replace a_c4 := hb.cell a_c4; replace a_c5 := hb.cell a_c5; replace a_c6 := hb.cell a_c6; replace a_c7 := hb.cell a_c7; replace a_c8 := hb.cell a_c8; replace a_c9 := hb.cell a_c9; replace a_c10 := hb.cell a_c10; replace b_B := b_B.next hb; replace b_c0 := hb.cell b_c0; replace b_c1 := hb.cell b_c1; replace b_c2 := hb.cell b_c2; replace b_c3 := hb.cell b_c3; replace b_c4 := hb.cell b_c4; replace b_c5 := hb.cell b_c5; replace b_c6 := hb.cell b_c6; replace b_c7 := hb.cell b_c7; replace b_c8 := hb.cell b_c8; replace b_c9 := hb.cell b_c9; replace b_c10 := hb.cell b_c10
  go_wp2_with fail
  refine (HAL.out _).mono ?_
  rintro e w3 ⟨rfl, hb⟩
  replace hS := hS.trans hb
  clear a_c0 a_c1 a_c2 a_c3 a_c4 a_c5 a_c6 a_c7 a_c8 a_c9 a_c10 b_c0 b_c1 b_c2 b_c3 b_c4 b_c5 b_c6 b_c7 b_c8 b_c9 b_c10 a_B b_B
  go_wp2_with fail
  go_ret2
  exact ⟨_, _, rfl, hS, rfl, rfl⟩
set_option maxHeartbeats 4000000 in
set_option maxRecDepth 100000 in
theorem mextend_ng (s p : List UInt8) (n : Nat) (a_v0 a_v1 a_v2 a_v3 : Bool) (a_l0 a_l1 a_l2 a_l3 : List UInt8) (b_v0 b_v1 b_v2 b_v3 : Bool) (b_l0 b_l1 b_l2 b_l3 : List UInt8) (hn : n ≤ 4) (v : Value) (l : List Bnd) (w : World) (hv : RowS w v l) (hl : bndN l) (hll : l.length ≤ 500) (hE : Env w) (hF : FitsA ((s, p, (n : Int), (b_v0, b_l0), (b_v1, b_l1), (b_v2, b_l2), (b_v3, b_l3)) : Atm)) (hgr : groundA ((s, p, (n : Int), (b_v0, b_l0), (b_v1, b_l1), (b_v2, b_l2), (b_v3, b_l3)) : Atm) = false) :
    Calls Tryz.prog 56 #[v, .agg #[.string ⟨s.toArray⟩, .string ⟨p.toArray⟩, .int .i64 (n : Int), .bool a_v0, .string ⟨a_l0.toArray⟩, .bool a_v1, .string ⟨a_l1.toArray⟩, .bool a_v2, .string ⟨a_l2.toArray⟩, .bool a_v3, .string ⟨a_l3.toArray⟩], .agg #[.string ⟨s.toArray⟩, .string ⟨p.toArray⟩, .int .i64 (n : Int), .bool b_v0, .string ⟨b_l0.toArray⟩, .bool b_v1, .string ⟨b_l1.toArray⟩, .bool b_v2, .string ⟨b_l2.toArray⟩, .bool b_v3, .string ⟨b_l3.toArray⟩]] w (MatchP none w) := by
  obtain ⟨va, vc, rfl⟩ := hv.1.form
  have HAL := Lib.hid (fun W => malike_yes s p n a_v0 a_v1 a_v2 a_v3 a_l0 a_l1 a_l2 a_l3 b_v0 b_v1 b_v2 b_v3 b_l0 b_l1 b_l2 b_l3 hn W)
  have HCK := Lib.hid (fun W (h : RowS W (.slice va l.length vc) l) => ucheck_any (.slice va l.length vc) l W h.1 hl.1 (by omega))
  have HGR := Lib.hid (fun W hE => ground_any s p (n : Int) b_v0 b_v1 b_v2 b_v3 b_l0 b_l1 b_l2 b_l3 W hF hE)
  rw [hgr] at HGR
  have hS2 : Since w ((w.alloc (.cells #[.string ⟨s.toArray⟩, .string ⟨p.toArray⟩, .int .i64 (n : Int), .bool a_v0, .string ⟨a_l0.toArray⟩, .bool a_v1, .string ⟨a_l1.toArray⟩, .bool a_v2, .string ⟨a_l2.toArray⟩, .bool a_v3, .string ⟨a_l3.toArray⟩] 33)).alloc (.cells #[.string ⟨s.toArray⟩, .string ⟨p.toArray⟩, .int .i64 (n : Int), .bool b_v0, .string ⟨b_l0.toArray⟩, .bool b_v1, .string ⟨b_l1.toArray⟩, .bool b_v2, .string ⟨b_l2.toArray⟩, .bool b_v3, .string ⟨b_l3.toArray⟩] 33)) := ((Since.refl _).alloc _).alloc _
  have a_B : Box ((w.alloc (.cells #[.string ⟨s.toArray⟩, .string ⟨p.toArray⟩, .int .i64 (n : Int), .bool a_v0, .string ⟨a_l0.toArray⟩, .bool a_v1, .string ⟨a_l1.toArray⟩, .bool a_v2, .string ⟨a_l2.toArray⟩, .bool a_v3, .string ⟨a_l3.toArray⟩] 33)).alloc (.cells #[.string ⟨s.toArray⟩, .string ⟨p.toArray⟩, .int .i64 (n : Int), .bool b_v0, .string ⟨b_l0.toArray⟩, .bool b_v1, .string ⟨b_l1.toArray⟩, .bool b_v2, .string ⟨b_l2.toArray⟩, .bool b_v3, .string ⟨b_l3.toArray⟩] 33)) w.heap.size ((s, p, (n : Int), (a_v0, a_l0), (a_v1, a_l1), (a_v2, a_l2), (a_v3, a_l3)) : Atm) := (box_new w ((s, p, (n : Int), (a_v0, a_l0), (a_v1, a_l1), (a_v2, a_l2), (a_v3, a_l3)) : Atm) _).next ((Since.refl _).alloc _)
  have b_B : Box ((w.alloc (.cells #[.string ⟨s.toArray⟩, .string ⟨p.toArray⟩, .int .i64 (n : Int), .bool a_v0, .string ⟨a_l0.toArray⟩, .bool a_v1, .string ⟨a_l1.toArray⟩, .bool a_v2, .string ⟨a_l2.toArray⟩, .bool a_v3, .string ⟨a_l3.toArray⟩] 33)).alloc (.cells #[.string ⟨s.toArray⟩, .string ⟨p.toArray⟩, .int .i64 (n : Int), .bool b_v0, .string ⟨b_l0.toArray⟩, .bool b_v1, .string ⟨b_l1.toArray⟩, .bool b_v2, .string ⟨b_l2.toArray⟩, .bool b_v3, .string ⟨b_l3.toArray⟩] 33)) (w.heap.size + 1) ((s, p, (n : Int), (b_v0, b_l0), (b_v1, b_l1), (b_v2, b_l2), (b_v3, b_l3)) : Atm) := by
    have := box_new (w.alloc (.cells #[.string ⟨s.toArray⟩, .string ⟨p.toArray⟩, .int .i64 (n : Int), .bool a_v0, .string ⟨a_l0.toArray⟩, .bool a_v1, .string ⟨a_l1.toArray⟩, .bool a_v2, .string ⟨a_l2.toArray⟩, .bool a_v3, .string ⟨a_l3.toArray⟩] 33)) ((s, p, (n : Int), (b_v0, b_l0), (b_v1, b_l1), (b_v2, b_l2), (b_v3, b_l3)) : Atm) 33
    rwa [World.size_alloc] at this
  have HE := Lib.hid hE
  have HV := Lib.hid hv
  clear hv hl hE hF hgr hll
  go_enter Tryz.func56, Tryz.ntmps56
  go_wp2_with fail
  go_step3
  go_wp2_with fail
  refine (HCK.out _ (HV.out.next hS2)).mono ?_
  rintro e w1 ⟨rfl, hb⟩
  have hS := hS2.trans hb
  replace a_B := a_B.next hb
  replace b_B := b_B.next hb
  clear hb hS2
  obtain ⟨a_c0, a_c1, a_c2, a_c3, a_c4, a_c5, a_c6, a_c7, a_c8, a_c9, a_c10⟩ := a_B.all
  obtain ⟨b_c0, b_c1, b_c2, b_c3, b_c4, b_c5, b_c6, b_c7, b_c8, b_c9, b_c10⟩ := b_B.all
  go_wp2_with fail
  refine (HAL.out _).mono ?_
  rintro e w3 ⟨rfl, hb⟩
  replace hS := hS.trans hb
  replace a_B := a_B.next hb
  replace b_B := b_B.next hb
  clear hb HAL a_c0 a_c1 a_c2 a_c3 a_c4 a_c5 a_c6 a_c7 a_c8 a_c9 a_c10 b_c0 b_c1 b_c2 b_c3 b_c4 b_c5 b_c6 b_c7 b_c8 b_c9 b_c10
  obtain ⟨b_c0, b_c1, b_c2, b_c3, b_c4, b_c5, b_c6, b_c7, b_c8, b_c9, b_c10⟩ := b_B.all
  go_wp2_with fail
  refine (HGR.out _ (HE.out.next hS)).mono ?_
  rintro e w4 ⟨rfl, hb⟩
  replace hS := hS.trans hb
  clear hb HGR b_c0 b_c1 b_c2 b_c3 b_c4 b_c5 b_c6 b_c7 b_c8 b_c9 b_c10 a_B b_B
  go_wp2_with fail
  go_ret2
  exact ⟨_, _, rfl, hS, rfl, rfl⟩
/-- Matching a valid pattern with any atom. -/
def extH (l : List Bnd) (a b : Atm) : Option (List Bnd) := if (a.1 = b.1 ∧ a.2.1 = b.2.1 ∧ a.2.2.1 = b.2.2.1) ∧ groundA b = true then matchG (pairsA a b) l else none
theorem pat_names {a b : Atm} (ka : checkA a = 0) : ∀ q ∈ pairsA a b, q.1.2 ≠ [] := by
  intro q hq
  unfold pairsA at hq
  rw [List.zip, List.take_zipWith] at hq
  have h1 := (List.of_mem_zip (show (q.1, q.2) ∈ ((argsL a).take (countA a)).zip ((argsL b).take (countA a)) from hq)).1
  have ka2 : NamedP (((argsL a).zip (argsL a)).take (countA a)) := named_pairs ka ka rfl
  obtain ⟨i, hi, e⟩ := List.getElem_of_mem h1
  have hi2 : i < (((argsL a).zip (argsL a)).take (countA a)).length := by
    rw [List.length_take, List.length_zip]
    rw [List.length_take] at hi
    omega
  have h3 := (ka2 _ (List.getElem_mem hi2)).1
  rw [List.getElem_take, List.getElem_zip] at h3
  rw [List.getElem_take] at e
  rw [← e]
  exact h3
theorem mextend_all (a_s a_p : List UInt8) (a_n : Int) (a_v0 a_v1 a_v2 a_v3 : Bool) (a_l0 a_l1 a_l2 a_l3 : List UInt8) (b_s b_p : List UInt8) (b_n : Int) (b_v0 b_v1 b_v2 b_v3 : Bool) (b_l0 b_l1 b_l2 b_l3 : List UInt8) (ka : checkA ((a_s, a_p, a_n, (a_v0, a_l0), (a_v1, a_l1), (a_v2, a_l2), (a_v3, a_l3)) : Atm) = 0) (v : Value) (l : List Bnd) (w : World) (hv : RowS w v l) (hl : bndN l) (hll : l.length ≤ 500) (hE : Env w) (hF : FitsA ((b_s, b_p, b_n, (b_v0, b_l0), (b_v1, b_l1), (b_v2, b_l2), (b_v3, b_l3)) : Atm)) :
    Calls Tryz.prog 56 #[v, .agg #[.string ⟨a_s.toArray⟩, .string ⟨a_p.toArray⟩, .int .i64 a_n, .bool a_v0, .string ⟨a_l0.toArray⟩, .bool a_v1, .string ⟨a_l1.toArray⟩, .bool a_v2, .string ⟨a_l2.toArray⟩, .bool a_v3, .string ⟨a_l3.toArray⟩], .agg #[.string ⟨b_s.toArray⟩, .string ⟨b_p.toArray⟩, .int .i64 b_n, .bool b_v0, .string ⟨b_l0.toArray⟩, .bool b_v1, .string ⟨b_l1.toArray⟩, .bool b_v2, .string ⟨b_l2.toArray⟩, .bool b_v3, .string ⟨b_l3.toArray⟩]] w (MatchP (extH l ((a_s, a_p, a_n, (a_v0, a_l0), (a_v1, a_l1), (a_v2, a_l2), (a_v3, a_l3)) : Atm) ((b_s, b_p, b_n, (b_v0, b_l0), (b_v1, b_l1), (b_v2, b_l2), (b_v3, b_l3)) : Atm)) w) := by
  obtain ⟨n, hn, e1, ca⟩ := valid_len ka
  by_cases he : a_s = b_s ∧ a_p = b_p ∧ a_n = b_n
  · have hnp := pat_names (b := ((b_s, b_p, b_n, (b_v0, b_l0), (b_v1, b_l1), (b_v2, b_l2), (b_v3, b_l3)) : Atm)) ka
    have hcc : countA ((a_s, a_p, a_n, (a_v0, a_l0), (a_v1, a_l1), (a_v2, a_l2), (a_v3, a_l3)) : Atm) = countA ((b_s, b_p, b_n, (b_v0, b_l0), (b_v1, b_l1), (b_v2, b_l2), (b_v3, b_l3)) : Atm) := by unfold countA; simp only; rw [he.2.2]
    cases hg : groundA ((b_s, b_p, b_n, (b_v0, b_l0), (b_v1, b_l1), (b_v2, b_l2), (b_v3, b_l3)) : Atm) with
    | true =>
      have hgp := ground_pairs (a := ((a_s, a_p, a_n, (a_v0, a_l0), (a_v1, a_l1), (a_v2, a_l2), (a_v3, a_l3)) : Atm)) hg hcc
      have hu : extH l ((a_s, a_p, a_n, (a_v0, a_l0), (a_v1, a_l1), (a_v2, a_l2), (a_v3, a_l3)) : Atm) ((b_s, b_p, b_n, (b_v0, b_l0), (b_v1, b_l1), (b_v2, b_l2), (b_v3, b_l3)) : Atm) = matchG (pairsA ((a_s, a_p, a_n, (a_v0, a_l0), (a_v1, a_l1), (a_v2, a_l2), (a_v3, a_l3)) : Atm) ((b_s, b_p, b_n, (b_v0, b_l0), (b_v1, b_l1), (b_v2, b_l2), (b_v3, b_l3)) : Atm)) l := by
        unfold extH
        rw [if_pos ⟨he, hg⟩]
      rw [hu]
      obtain ⟨h1, h2, h3⟩ := he
      simp only at e1
      subst h1 h2
      obtain rfl : a_n = (n : Int) := e1
      obtain rfl : b_n = (n : Int) := h3.symm
      exact mextend_main a_s a_p n a_v0 a_l0 a_v1 a_l1 a_v2 a_l2 a_v3 a_l3 b_v0 b_l0 b_v1 b_l1 b_v2 b_l2 b_v3 b_l3 hn v l w hv hl hll hE hF hnp hgp hg
    | false =>
      have hu : extH l ((a_s, a_p, a_n, (a_v0, a_l0), (a_v1, a_l1), (a_v2, a_l2), (a_v3, a_l3)) : Atm) ((b_s, b_p, b_n, (b_v0, b_l0), (b_v1, b_l1), (b_v2, b_l2), (b_v3, b_l3)) : Atm) = none := by
        unfold extH
        rw [if_neg (fun h => by rw [hg] at h; cases h.2)]
      rw [hu]
      obtain ⟨h1, h2, h3⟩ := he
      simp only at e1
      subst h1 h2
      obtain rfl : a_n = (n : Int) := e1
      obtain rfl : b_n = (n : Int) := h3.symm
      exact mextend_ng a_s a_p n a_v0 a_v1 a_v2 a_v3 a_l0 a_l1 a_l2 a_l3 b_v0 b_v1 b_v2 b_v3 b_l0 b_l1 b_l2 b_l3 hn v l w hv hl hll hE hF hg
  · have hu : extH l ((a_s, a_p, a_n, (a_v0, a_l0), (a_v1, a_l1), (a_v2, a_l2), (a_v3, a_l3)) : Atm) ((b_s, b_p, b_n, (b_v0, b_l0), (b_v1, b_l1), (b_v2, b_l2), (b_v3, b_l3)) : Atm) = none := by
      unfold extH
      rw [if_neg (fun h => he h.1)]
    rw [hu]
    exact mextend_no a_s a_p a_n a_v0 a_v1 a_v2 a_v3 a_l0 a_l1 a_l2 a_l3 b_s b_p b_n b_v0 b_v1 b_v2 b_v3 b_l0 b_l1 b_l2 b_l3 he v l w hv hl hll
set_option maxHeartbeats 4000000 in
set_option maxRecDepth 100000 in
theorem mmatch_all (a_s a_p : List UInt8) (a_n : Int) (a_v0 a_v1 a_v2 a_v3 : Bool) (a_l0 a_l1 a_l2 a_l3 : List UInt8) (b_s b_p : List UInt8) (b_n : Int) (b_v0 b_v1 b_v2 b_v3 : Bool) (b_l0 b_l1 b_l2 b_l3 : List UInt8) (ka : checkA ((a_s, a_p, a_n, (a_v0, a_l0), (a_v1, a_l1), (a_v2, a_l2), (a_v3, a_l3)) : Atm) = 0) (w : World) (hE : Env w) (hF : FitsA ((b_s, b_p, b_n, (b_v0, b_l0), (b_v1, b_l1), (b_v2, b_l2), (b_v3, b_l3)) : Atm)) :
    Calls Tryz.prog 36 #[.agg #[.string ⟨a_s.toArray⟩, .string ⟨a_p.toArray⟩, .int .i64 a_n, .bool a_v0, .string ⟨a_l0.toArray⟩, .bool a_v1, .string ⟨a_l1.toArray⟩, .bool a_v2, .string ⟨a_l2.toArray⟩, .bool a_v3, .string ⟨a_l3.toArray⟩], .agg #[.string ⟨b_s.toArray⟩, .string ⟨b_p.toArray⟩, .int .i64 b_n, .bool b_v0, .string ⟨b_l0.toArray⟩, .bool b_v1, .string ⟨b_l1.toArray⟩, .bool b_v2, .string ⟨b_l2.toArray⟩, .bool b_v3, .string ⟨b_l3.toArray⟩]] w (MatchP (extH [] ((a_s, a_p, a_n, (a_v0, a_l0), (a_v1, a_l1), (a_v2, a_l2), (a_v3, a_l3)) : Atm) ((b_s, b_p, b_n, (b_v0, b_l0), (b_v1, b_l1), (b_v2, b_l2), (b_v3, b_l3)) : Atm)) w) := by
  have HX := Lib.hid (fun W (h : Env W) => mextend_all a_s a_p a_n a_v0 a_v1 a_v2 a_v3 a_l0 a_l1 a_l2 a_l3 b_s b_p b_n b_v0 b_v1 b_v2 b_v3 b_l0 b_l1 b_l2 b_l3 ka (.slice none 0 0) [] W ⟨RowOf.nil, .inl ⟨rfl, rfl⟩⟩ bndN.nil (by simp) h hF)
  obtain ⟨R, hR⟩ : ∃ R, Hid (R = extH [] ((a_s, a_p, a_n, (a_v0, a_l0), (a_v1, a_l1), (a_v2, a_l2), (a_v3, a_l3)) : Atm) ((b_s, b_p, b_n, (b_v0, b_l0), (b_v1, b_l1), (b_v2, b_l2), (b_v3, b_l3)) : Atm)) := ⟨_, rfl⟩
  rw [← hR.out] at HX ⊢
  have hS : Since w ((w.alloc (.cells #[.string ⟨a_s.toArray⟩, .string ⟨a_p.toArray⟩, .int .i64 a_n, .bool a_v0, .string ⟨a_l0.toArray⟩, .bool a_v1, .string ⟨a_l1.toArray⟩, .bool a_v2, .string ⟨a_l2.toArray⟩, .bool a_v3, .string ⟨a_l3.toArray⟩] 33)).alloc (.cells #[.string ⟨b_s.toArray⟩, .string ⟨b_p.toArray⟩, .int .i64 b_n, .bool b_v0, .string ⟨b_l0.toArray⟩, .bool b_v1, .string ⟨b_l1.toArray⟩, .bool b_v2, .string ⟨b_l2.toArray⟩, .bool b_v3, .string ⟨b_l3.toArray⟩] 33)) := ((Since.refl _).alloc _).alloc _
  have a_B : Box ((w.alloc (.cells #[.string ⟨a_s.toArray⟩, .string ⟨a_p.toArray⟩, .int .i64 a_n, .bool a_v0, .string ⟨a_l0.toArray⟩, .bool a_v1, .string ⟨a_l1.toArray⟩, .bool a_v2, .string ⟨a_l2.toArray⟩, .bool a_v3, .string ⟨a_l3.toArray⟩] 33)).alloc (.cells #[.string ⟨b_s.toArray⟩, .string ⟨b_p.toArray⟩, .int .i64 b_n, .bool b_v0, .string ⟨b_l0.toArray⟩, .bool b_v1, .string ⟨b_l1.toArray⟩, .bool b_v2, .string ⟨b_l2.toArray⟩, .bool b_v3, .string ⟨b_l3.toArray⟩] 33)) w.heap.size ((a_s, a_p, a_n, (a_v0, a_l0), (a_v1, a_l1), (a_v2, a_l2), (a_v3, a_l3)) : Atm) := (box_new w ((a_s, a_p, a_n, (a_v0, a_l0), (a_v1, a_l1), (a_v2, a_l2), (a_v3, a_l3)) : Atm) _).next ((Since.refl _).alloc _)
  have b_B : Box ((w.alloc (.cells #[.string ⟨a_s.toArray⟩, .string ⟨a_p.toArray⟩, .int .i64 a_n, .bool a_v0, .string ⟨a_l0.toArray⟩, .bool a_v1, .string ⟨a_l1.toArray⟩, .bool a_v2, .string ⟨a_l2.toArray⟩, .bool a_v3, .string ⟨a_l3.toArray⟩] 33)).alloc (.cells #[.string ⟨b_s.toArray⟩, .string ⟨b_p.toArray⟩, .int .i64 b_n, .bool b_v0, .string ⟨b_l0.toArray⟩, .bool b_v1, .string ⟨b_l1.toArray⟩, .bool b_v2, .string ⟨b_l2.toArray⟩, .bool b_v3, .string ⟨b_l3.toArray⟩] 33)) (w.heap.size + 1) ((b_s, b_p, b_n, (b_v0, b_l0), (b_v1, b_l1), (b_v2, b_l2), (b_v3, b_l3)) : Atm) := by
    have := box_new (w.alloc (.cells #[.string ⟨a_s.toArray⟩, .string ⟨a_p.toArray⟩, .int .i64 a_n, .bool a_v0, .string ⟨a_l0.toArray⟩, .bool a_v1, .string ⟨a_l1.toArray⟩, .bool a_v2, .string ⟨a_l2.toArray⟩, .bool a_v3, .string ⟨a_l3.toArray⟩] 33)) ((b_s, b_p, b_n, (b_v0, b_l0), (b_v1, b_l1), (b_v2, b_l2), (b_v3, b_l3)) : Atm) 33
    rwa [World.size_alloc] at this
  obtain ⟨a_c0, a_c1, a_c2, a_c3, a_c4, a_c5, a_c6, a_c7, a_c8, a_c9, a_c10⟩ := a_B.all
  obtain ⟨b_c0, b_c1, b_c2, b_c3, b_c4, b_c5, b_c6, b_c7, b_c8, b_c9, b_c10⟩ := b_B.all
  have hE2 := hE.next hS
  clear ka hE hF hR
  go_enter Tryz.func36, Tryz.ntmps36
  go_wp2_with fail
  refine (HX.out _ hE2).mono ?_
  rintro e w1 ⟨v, r, rfl, hb, hv⟩
  clear a_c0 a_c1 a_c2 a_c3 a_c4 a_c5 a_c6 a_c7 a_c8 a_c9 a_c10 b_c0 b_c1 b_c2 b_c3 b_c4 b_c5 b_c6 b_c7 b_c8 b_c9 b_c10 a_B b_B
  go_wp2_with fail
  go_ret2
  exact ⟨_, _, rfl, hS.trans hb, hv⟩
end Go.Proofs.YtbgdljcgbhhfdaaGreatDoor
