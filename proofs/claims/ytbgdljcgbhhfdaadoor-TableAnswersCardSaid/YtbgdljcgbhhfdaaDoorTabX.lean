/- TableAnswers: the walk. -/
import Derived.Test.YtbgdljcgbhhfdaaDoorTabS
import Derived.Test.YtbgdljcgbhhfdaaDoorRk5B
namespace Go.Proofs.YtbgdljcgbhhfdaaDoor
open Go.RowKit Go.Maps Go.WideMaps
attribute [local go_sem ↓] run_atomEq
attribute [local go_sem] eqA_self

theorem since_setCells {w0 : World} {b : Nat} (hb : w0.heap.size ≤ b) : ∀ (vs : List Value) (o : Nat) {W : World}, Since w0 W → Since w0 (W.setCells b o vs)
  | [], _, _, h => h
  | v :: vs, o, _, h => since_setCells hb vs (o + 1) (Since.setCell h (p := ⟨b, o, none⟩) hb v)
theorem pos_moreA {l : List Atm} {x : Atm} {q : Nat} (hq : q < l.length) : (posF (l.take (q + 1)) x 0).isSome = ((posF (l.take q) x 0).isSome || eqA l[q] x) := by
  rw [List.take_succ_eq_append_getElem hq, posF_snoc]
  cases posF (l.take q) x 0 with
  | some j => rfl
  | none =>
    by_cases h : l[q] = x
    · rw [if_pos h, h, eqA_self]; rfl
    · rw [if_neg h]
      cases hh : eqA l[q] x with
      | false => rfl
      | true => exact absurd (eqA_iff.1 hh) h
theorem pos_in {l : List Atm} {x : Atm} : (posF l x 0).isSome = decide (x ∈ l) := by
  cases h : posF l x 0 with
  | none => have := posF_none.1 h; simp [this]
  | some j =>
    have h2 := List.mem_of_getElem? (posF_lt h).2.2
    simp [h2]
theorem rmatch_flag (c_s c_p : List UInt8) (c_n : Int) (c_v0 c_v1 c_v2 c_v3 : Bool) (c_l0 c_l1 c_l2 c_l3 : List UInt8) (a_s a_p : List UInt8) (a_n : Int) (a_v0 a_v1 a_v2 a_v3 : Bool) (a_l0 a_l1 a_l2 a_l3 : List UInt8) (kc : checkA ((c_s, c_p, c_n, (c_v0, c_l0), (c_v1, c_l1), (c_v2, c_l2), (c_v3, c_l3)) : Atm) = 0) {r : Bool} (hr : (extH [] ((c_s, c_p, c_n, (c_v0, c_l0), (c_v1, c_l1), (c_v2, c_l2), (c_v3, c_l3)) : Atm) ((a_s, a_p, a_n, (a_v0, a_l0), (a_v1, a_l1), (a_v2, a_l2), (a_v3, a_l3)) : Atm)).isSome = r) (w : World) :
    Calls Tryd.prog 22 #[.agg #[.string ⟨c_s.toArray⟩, .string ⟨c_p.toArray⟩, .int .i64 c_n, .bool c_v0, .string ⟨c_l0.toArray⟩, .bool c_v1, .string ⟨c_l1.toArray⟩, .bool c_v2, .string ⟨c_l2.toArray⟩, .bool c_v3, .string ⟨c_l3.toArray⟩], .agg #[.string ⟨a_s.toArray⟩, .string ⟨a_p.toArray⟩, .int .i64 a_n, .bool a_v0, .string ⟨a_l0.toArray⟩, .bool a_v1, .string ⟨a_l1.toArray⟩, .bool a_v2, .string ⟨a_l2.toArray⟩, .bool a_v3, .string ⟨a_l3.toArray⟩]] w fun e w' => ∃ v, e = .returned (.tuple #[v, .bool r]) ∧ Since w w' := by
  refine (rmatch_all c_s c_p c_n c_v0 c_v1 c_v2 c_v3 c_l0 c_l1 c_l2 c_l3 a_s a_p a_n a_v0 a_v1 a_v2 a_v3 a_l0 a_l1 a_l2 a_l3 kc w).mono ?_
  rintro e w' ⟨v, b, rfl, hb, hm⟩
  refine ⟨v, ?_, hb⟩
  have e : b = r := by
    rw [← hr]
    cases h : extH [] ((c_s, c_p, c_n, (c_v0, c_l0), (c_v1, c_l1), (c_v2, c_l2), (c_v3, c_l3)) : Atm) ((a_s, a_p, a_n, (a_v0, a_l0), (a_v1, a_l1), (a_v2, a_l2), (a_v3, a_l3)) : Atm) with
    | none => rw [h] at hm; exact hm.1
    | some m => rw [h] at hm; exact hm.1
  rw [e]
theorem add_tail {w w8 w9 : World} {B g : Nat} {Z : Nat → Prop} {S' : List TCall} {u v : Value} {P : List Atm} {c : Atm} {o : Obj} {xs : List Value} (hT : Tab w8 B g Z S') (hS : Since w w8) (hrow : w8.ownsRow w.heap.size 34 11 u P.length (P.flatMap atmL)) (hzz : ∀ b, u.ownBlock = some b → ¬ Z b)
    (hg : (w8.alloc o).grownBy w9 u.ownBlock) (hown : w9.ownsRow w.heap.size 34 11 v (P.length + 1) (P.flatMap atmL ++ xs)) (hx : xs = (atmC c).toList) (hat : v.ownBlock = u.ownBlock ∨ v.ownBlock = some (w8.alloc o).heap.size) :
    Tab w9 B g Z S' ∧ Since w w9 ∧ w9.ownsRow w.heap.size 34 11 v (P ++ [c]).length ((P ++ [c]).flatMap atmL) ∧ ∀ b, v.ownBlock = some b → ¬ Z b := by
  have ha : Since w8 (w8.alloc o) := (Since.refl _).alloc o
  refine ⟨(hT.next ha).far hg hzz, Below.grown (hS.trans ha) hg (hS.trans ha).size (fun b hb => (hrow.lt b hb).1), own_push11 hown hx, fun b hb hz => ?_⟩
  rcases hat with h | h
  · exact hzz b (h ▸ hb) hz
  · rw [h] at hb
    injection hb with hb
    have := (hT.low b hz).2
    have := ha.size
    omega
theorem own_there {w : World} {B : Nat} {e : TypeId} {K n c : Nat} {a : Option Addr} {xs : List Value} (h : w.ownsRow B e K (.slice a n c) n xs) (h0 : 0 < n) : ∃ gb, a = some ⟨gb, 0, none⟩ ∧ B ≤ gb ∧ w.there gb 0 (n * K) := by
  rcases h.2 with ⟨_, h2⟩ | ⟨g, cap, cur, hv, hb, hg, h1, _, h3, _⟩
  · omega
  · injection hv with e1 e2 e3
    refine ⟨g, e1, hb, fun j hj => ?_⟩
    have hC : Cel w g cur e := hg
    have hlt : j < cur.size := by
      rw [h3]
      exact Nat.lt_of_lt_of_le hj (Nat.mul_le_mul_right K h1)
    rw [Nat.zero_add]
    refine ⟨?_, hC.free j⟩
    rw [hC.cell j, Array.getElem?_eq_getElem hlt]; rfl
/-- What an addition comes to, with the answers that there are. -/
def addR (c : Atm) (P : List Atm) (x : Atm) : Bool × Int × List Atm := if addOK c x then (if x ∈ P then (false, 0, P) else (true, 0, P ++ [x])) else (false, 2, P)
theorem tadd_r {B g : Nat} {Z : Nat → Prop} {c : Atm} {P : List Atm} (a_s a_p : List UInt8) (a_n : Int) (a_v0 a_v1 a_v2 a_v3 : Bool) (a_l0 a_l1 a_l2 a_l3 : List UInt8) (w : World) (h : Tab w B g Z [(c, P, [])]) (hf : FitsN ((a_s, a_p, a_n, (a_v0, a_l0), (a_v1, a_l1), (a_v2, a_l2), (a_v3, a_l3)) : Atm)) (hE : Env w) (hkc : checkA c = 0) (hl : P.length < 1000) :
    Calls Tryd.prog 21 #[.pointer (some ⟨g, 0, none⟩), .int .i64 0, .agg #[.string ⟨a_s.toArray⟩, .string ⟨a_p.toArray⟩, .int .i64 a_n, .bool a_v0, .string ⟨a_l0.toArray⟩, .bool a_v1, .string ⟨a_l1.toArray⟩, .bool a_v2, .string ⟨a_l2.toArray⟩, .bool a_v3, .string ⟨a_l3.toArray⟩]] w fun e w' => e = .returned (.tuple #[.bool (addR c P ((a_s, a_p, a_n, (a_v0, a_l0), (a_v1, a_l1), (a_v2, a_l2), (a_v3, a_l3)) : Atm)).1, .int .i64 (addR c P ((a_s, a_p, a_n, (a_v0, a_l0), (a_v1, a_l1), (a_v2, a_l2), (a_v3, a_l3)) : Atm)).2.1]) ∧ TOp Z B g w w' [(c, (addR c P ((a_s, a_p, a_n, (a_v0, a_l0), (a_v1, a_l1), (a_v2, a_l2), (a_v3, a_l3)) : Atm)).2.2, [])] := by
  have hi : 0 < ([(c, P, [])] : List TCall).length := by simp
  unfold addR
  cases hx : addOK c ((a_s, a_p, a_n, (a_v0, a_l0), (a_v1, a_l1), (a_v2, a_l2), (a_v3, a_l3)) : Atm) with
  | false =>
    refine (tadd_t1 0 a_s a_p a_n a_v0 a_v1 a_v2 a_v3 a_l0 a_l1 a_l2 a_l3 w h hi hf hE hkc hx).mono ?_
    rintro e w' ⟨rfl, hb⟩
    exact ⟨rfl, TOp.same h hb h.le⟩
  | true =>
    by_cases hin : ((a_s, a_p, a_n, (a_v0, a_l0), (a_v1, a_l1), (a_v2, a_l2), (a_v3, a_l3)) : Atm) ∈ P
    · rw [if_pos rfl, if_pos hin]
      refine (tadd_t2 0 a_s a_p a_n a_v0 a_v1 a_v2 a_v3 a_l0 a_l1 a_l2 a_l3 w h hi hf hE hkc hx hin).mono ?_
      rintro e w' ⟨rfl, hb⟩
      exact ⟨rfl, TOp.same h hb h.le⟩
    · rw [if_pos rfl, if_neg hin]
      have hcn : cntS [(c, P, [])] < 1000000 := by show P.length + 0 < _; omega
      exact tadd_t3 0 a_s a_p a_n a_v0 a_v1 a_v2 a_v3 a_l0 a_l1 a_l2 a_l3 w h hi hf hE hkc hx hin (by show P.length < _; omega) hcn
set_option maxHeartbeats 0 in
set_option maxRecDepth 100000 in
theorem answers_any (a_s a_p : List UInt8) (a_n : Int) (a_v0 a_v1 a_v2 a_v3 : Bool) (a_l0 a_l1 a_l2 a_l3 : List UInt8) (va : Option Addr) (lc : Nat) (L : List Atm) (w : World) (hfa : FitsN ((a_s, a_p, a_n, (a_v0, a_l0), (a_v1, a_l1), (a_v2, a_l2), (a_v3, a_l3)) : Atm)) (hv : ARow w (.slice va L.length lc) L) (hF : ∀ a ∈ L, FitsN a) (hE : Env w) :
    Calls Tryd.prog 5 #[.agg #[.string ⟨a_s.toArray⟩, .string ⟨a_p.toArray⟩, .int .i64 a_n, .bool a_v0, .string ⟨a_l0.toArray⟩, .bool a_v1, .string ⟨a_l1.toArray⟩, .bool a_v2, .string ⟨a_l2.toArray⟩, .bool a_v3, .string ⟨a_l3.toArray⟩], .slice va L.length lc] w fun e w' => e = .returned (.bool true) ∧ Since w w' := by
  obtain ⟨i5, hi, hz0, hz1, hz2⟩ := info_parts own_atm_info
  have I5 := Lib.hid (And.intro hi (And.intro hz0 (And.intro hz1 hz2)))
  clear hi hz0 hz1 hz2
  have hS0 : Since w (w.alloc (.cells #[.string ⟨a_s.toArray⟩, .string ⟨a_p.toArray⟩, .int .i64 a_n, .bool a_v0, .string ⟨a_l0.toArray⟩, .bool a_v1, .string ⟨a_l1.toArray⟩, .bool a_v2, .string ⟨a_l2.toArray⟩, .bool a_v3, .string ⟨a_l3.toArray⟩] 34)) := (Since.refl w).alloc _
  have aB : Box (w.alloc (.cells #[.string ⟨a_s.toArray⟩, .string ⟨a_p.toArray⟩, .int .i64 a_n, .bool a_v0, .string ⟨a_l0.toArray⟩, .bool a_v1, .string ⟨a_l1.toArray⟩, .bool a_v2, .string ⟨a_l2.toArray⟩, .bool a_v3, .string ⟨a_l3.toArray⟩] 34)) w.heap.size ((a_s, a_p, a_n, (a_v0, a_l0), (a_v1, a_l1), (a_v2, a_l2), (a_v3, a_l3)) : Atm) := box_new w ((a_s, a_p, a_n, (a_v0, a_l0), (a_v1, a_l1), (a_v2, a_l2), (a_v3, a_l3)) : Atm) _
  have aA0 : At (w.alloc (.cells #[.string ⟨a_s.toArray⟩, .string ⟨a_p.toArray⟩, .int .i64 a_n, .bool a_v0, .string ⟨a_l0.toArray⟩, .bool a_v1, .string ⟨a_l1.toArray⟩, .bool a_v2, .string ⟨a_l2.toArray⟩, .bool a_v3, .string ⟨a_l3.toArray⟩] 34)) w.heap.size 0 #[.string ⟨a_s.toArray⟩, .string ⟨a_p.toArray⟩, .int .i64 a_n, .bool a_v0, .string ⟨a_l0.toArray⟩, .bool a_v1, .string ⟨a_l1.toArray⟩, .bool a_v2, .string ⟨a_l2.toArray⟩, .bool a_v3, .string ⟨a_l3.toArray⟩] := Cel.at (heap_alloc_new w _)
  have HE := Lib.hid (hE.next hS0)
  have HV := Lib.hid (anext hv hS0)
  have HF := Lib.hid hF
  have HFA := Lib.hid hfa
  clear hE hv hF hfa
  go_enter Tryd.func5, Tryd.ntmps5
  go_upto_region 1 with (fail)
  generalize hw1 : w.alloc (.cells #[.string ⟨a_s.toArray⟩, .string ⟨a_p.toArray⟩, .int .i64 a_n, .bool a_v0, .string ⟨a_l0.toArray⟩, .bool a_v1, .string ⟨a_l1.toArray⟩, .bool a_v2, .string ⟨a_l2.toArray⟩, .bool a_v3, .string ⟨a_l3.toArray⟩] 34) = w1 at *
  clear hw1
  obtain ⟨LA, hLA⟩ : ∃ B, Hid (B = lightAs 40 L) := ⟨_, rfl⟩
  obtain ⟨LB, hLB⟩ : ∃ B, Hid (B = lightB ((a_s, a_p, a_n, (a_v0, a_l0), (a_v1, a_l1), (a_v2, a_l2), (a_v3, a_l3)) : Atm)) := ⟨_, rfl⟩
  have H1 := Lib.hid (fun W (h : Since w1 W) => lightatoms_any _ 40 L W (anext HV.out h) (by decide))
  have H2 := Lib.hid (fun W => light_any a_s a_p a_n a_v0 a_v1 a_v2 a_v3 a_l0 a_l1 a_l2 a_l3 W)
  rw [← hLA.out] at H1
  rw [← hLB.out] at H2
  go_wp2_with fail
  refine (lives18_any _ HE.out).mono ?_
  rintro e w2 ⟨rfl, hb2⟩
  cases LA
  · go_wp2_with fail
    refine (H1.out _ hb2).mono ?_
    rintro e w3 ⟨rfl, hb3⟩
    go_wp2_with fail
    go_ret
    exact ⟨rfl, hS0.trans (hb2.trans hb3)⟩
  have hlen : Hid (L.length ≤ 40) := by show _ ≤ _; have := (lightAs_of hLA.out.symm).1; omega
  go_wp2_with fail
  refine (H1.out _ hb2).mono ?_
  rintro e w3 ⟨rfl, hb3⟩
  have hS3 := hb2.trans hb3
  have aB3 := aB.next hS3
  obtain ⟨a_c0, a_c1, a_c2, a_c3, a_c4, a_c5, a_c6, a_c7, a_c8, a_c9, a_c10⟩ := aB3.all
  clear H1 hLA hb2 hb3 aB3
  cases LB
  · go_wp2_with fail
    refine (H2.out _).mono ?_
    rintro e w4 ⟨rfl, hb4⟩
    clear a_c0 a_c1 a_c2 a_c3 a_c4 a_c5 a_c6 a_c7 a_c8 a_c9 a_c10
    go_wp2_with fail
    go_ret
    exact ⟨rfl, hS0.trans (hS3.trans hb4)⟩
  go_wp2_with fail
  refine (H2.out _).mono ?_
  rintro e w4 ⟨rfl, hb4⟩
  replace hS3 := hS3.trans hb4
  clear H2 hLB hb4 a_c0 a_c1 a_c2 a_c3 a_c4 a_c5 a_c6 a_c7 a_c8 a_c9 a_c10
  go_wp2_with fail
  refine (tnew_t _).mono ?_
  rintro e w5 ⟨g, rfl, ⟨Z0, hT0⟩, hb5⟩
  obtain ⟨B, hB0⟩ : ∃ B, Hid (w4.heap.size = B) := ⟨_, rfl⟩
  have HB : Hid (w1.heap.size ≤ B) := by show _ ≤ _; rw [← hB0.out]; exact hS3.size
  rw [hB0.out] at hT0
  have hS5 := hS3.trans hb5
  have aB5 := aB.next hS5
  obtain ⟨a_c0, a_c1, a_c2, a_c3, a_c4, a_c5, a_c6, a_c7, a_c8, a_c9, a_c10⟩ := aB5.all
  clear hb5 hB0 hS3 aB5
  by_cases hk0 : checkA ((a_s, a_p, a_n, (a_v0, a_l0), (a_v1, a_l1), (a_v2, a_l2), (a_v3, a_l3)) : Atm) = 0
  case neg =>
    go_wp2_with fail
    refine (topen_bad a_s a_p a_n a_v0 a_v1 a_v2 a_v3 a_l0 a_l1 a_l2 a_l3 w5 HFA.out (HE.out.next hS5) hk0).mono ?_
    rintro e w6 ⟨rfl, hb6⟩
    clear a_c0 a_c1 a_c2 a_c3 a_c4 a_c5 a_c6 a_c7 a_c8 a_c9 a_c10
    go_wp2_with fail
    refine (tlen_t _ (hT0.next hb6)).mono ?_
    rintro e w7 ⟨rfl, hb7⟩
    go_wp2_with fail
    go_ret
    exact ⟨rfl, hS0.trans ((hS5.trans hb6).trans hb7)⟩
  have hO : openS [] ((a_s, a_p, a_n, (a_v0, a_l0), (a_v1, a_l1), (a_v2, a_l2), (a_v3, a_l3)) : Atm) = (0, true, [(canA ((a_s, a_p, a_n, (a_v0, a_l0), (a_v1, a_l1), (a_v2, a_l2), (a_v3, a_l3)) : Atm), [], [])]) := rfl
  have HOP := Lib.hid (topen_t a_s a_p a_n a_v0 a_v1 a_v2 a_v3 a_l0 a_l1 a_l2 a_l3 w5 hT0 HFA.out (HE.out.next hS5) hk0 (by simp) hO)
  have HKC := Lib.hid (check_can hk0)
  have HMC := Lib.hid (fun x (kx : checkA x = 0) => match_can (x := x) hk0 kx)
  obtain ⟨c, hc0⟩ : ∃ c, Hid (c = canA ((a_s, a_p, a_n, (a_v0, a_l0), (a_v1, a_l1), (a_v2, a_l2), (a_v3, a_l3)) : Atm)) := ⟨_, rfl⟩
  rw [← hc0.out] at HOP HKC HMC
  have HK0 := Lib.hid hk0
  clear hO hc0 hk0
  go_wp2_with fail
  refine HOP.out.mono ?_
  rintro e w6 ⟨rfl, hop⟩
  obtain ⟨Z, hT6, hk6, -⟩ := hop.split
  have hS6 := hT0.since hk6 hS5 HB.out
  clear hop hk6 hT0 hS5 HOP a_c0 a_c1 a_c2 a_c3 a_c4 a_c5 a_c6 a_c7 a_c8 a_c9 a_c10 aB
  go_wp2_with fail
  go_loopw [10, 9] (fun i sv wr => ∃ (k : Nat) (P : List Atm) (Z : Nat → Prop), k ≤ L.length ∧ i = .int .i64 (k : Int) ∧ Since w1 wr ∧ Tab wr B g Z [(c, P, [])] ∧ wr.ownsRow w1.heap.size 34 11 sv P.length (P.flatMap atmL) ∧ (∀ b, sv.ownBlock = some b → ¬ Z b) ∧ P.length ≤ k) (fun i _ _ => L.length - (intOf i).toNat)
  case atStart => exact ⟨0, [], Z, by omega, rfl, hS6, hT6, World.ownsRow_nil _ _ _ _, (fun b hb => by cases hb), Nat.zero_le _⟩
  case round =>
  rename World => wo
  clear hT6 hS6
  obtain ⟨k, P, Z, hk, rfl, hS, hT, hrow, hz, hPk⟩ := hrel
  obtain ⟨sa, sc, rfl⟩ : ∃ a c, u9 = .slice a P.length c := own_slice hrow
  have hl40 : L.length ≤ 40 := hlen.out
  by_cases hlt : k < L.length
  · have hlt2 : (k : Int) < (L.length : Int) := by omega
    have hlt0 : (0 : Int) ≤ (k : Int) := by omega
    obtain ⟨b, ob, rfl, hc, hat⟩ := HV.out.get (by omega)
    have HD0 := Lib.hid (hat k hlt)
    have hfx := HF.out _ (List.getElem_mem hlt)
    obtain ⟨x, hx⟩ : ∃ x, Hid (x = L[k]) := ⟨L[k], rfl⟩
    rw [← hx.out] at HD0 hfx
    obtain ⟨x_s, x_p, x_n, ⟨x_v0, x_l0⟩, ⟨x_v1, x_l1⟩, ⟨x_v2, x_l2⟩, ⟨x_v3, x_l3⟩⟩ := x
    have HFX := Lib.hid hfx
    have xA0 : At w1 b (ob + k * 11) #[.string ⟨x_s.toArray⟩, .string ⟨x_p.toArray⟩, .int .i64 x_n, .bool x_v0, .string ⟨x_l0.toArray⟩, .bool x_v1, .string ⟨x_l1.toArray⟩, .bool x_v2, .string ⟨x_l2.toArray⟩, .bool x_v3, .string ⟨x_l3.toArray⟩] := HD0.out
    have d1 := HD0.out.next hS
    obtain ⟨x_c0, x_c1, x_c2, x_c3, x_c4, x_c5, x_c6, x_c7, x_c8, x_c9, x_c10⟩ := d1.all
    clear hat hx d1 hfx
    obtain ⟨⟨fr, er, P'⟩, hR⟩ : ∃ q, Hid (addR c P ((x_s, x_p, x_n, (x_v0, x_l0), (x_v1, x_l1), (x_v2, x_l2), (x_v3, x_l3)) : Atm) = q) := ⟨_, rfl⟩
    have HAD := Lib.hid (tadd_r x_s x_p x_n x_v0 x_v1 x_v2 x_v3 x_l0 x_l1 x_l2 x_l3 wo hT HFX.out (HE.out.next hS) HKC.out (by omega))
    rw [hR.out] at HAD
    obtain ⟨r2, hr2⟩ : ∃ r, Hid ((extH [] ((a_s, a_p, a_n, (a_v0, a_l0), (a_v1, a_l1), (a_v2, a_l2), (a_v3, a_l3)) : Atm) ((x_s, x_p, x_n, (x_v0, x_l0), (x_v1, x_l1), (x_v2, x_l2), (x_v3, x_l3)) : Atm)).isSome = r) := ⟨_, rfl⟩
    have HRM := Lib.hid (fun W => rmatch_flag a_s a_p a_n a_v0 a_v1 a_v2 a_v3 a_l0 a_l1 a_l2 a_l3 x_s x_p x_n x_v0 x_v1 x_v2 x_v3 x_l0 x_l1 x_l2 x_l3 HK0.out hr2.out W)
    have HC : Hid ((fr = false ∧ er = 2 ∧ P' = P) ∨ (fr = false ∧ er = 0 ∧ P' = P ∧ (posF P ((x_s, x_p, x_n, (x_v0, x_l0), (x_v1, x_l1), (x_v2, x_l2), (x_v3, x_l3)) : Atm) 0).isSome = true ∧ r2 = true) ∨ (fr = true ∧ er = 0 ∧ P' = P ++ [((x_s, x_p, x_n, (x_v0, x_l0), (x_v1, x_l1), (x_v2, x_l2), (x_v3, x_l3)) : Atm)] ∧ (posF P ((x_s, x_p, x_n, (x_v0, x_l0), (x_v1, x_l1), (x_v2, x_l2), (x_v3, x_l3)) : Atm) 0).isSome = false ∧ r2 = true)) := by
      have h := hR.out
      unfold addR at h
      cases hok : addOK c ((x_s, x_p, x_n, (x_v0, x_l0), (x_v1, x_l1), (x_v2, x_l2), (x_v3, x_l3)) : Atm) with
      | false =>
        rw [hok] at h
        injection h with h1 h2
        injection h2 with h2 h3
        exact .inl ⟨h1.symm, h2.symm, h3.symm⟩
      | true =>
        obtain ⟨p1, p2⟩ := addOK_parts hok
        have h9 : r2 = true := by rw [← hr2.out]; exact HMC.out _ p1 p2
        rw [hok, if_pos rfl] at h
        by_cases hin : ((x_s, x_p, x_n, (x_v0, x_l0), (x_v1, x_l1), (x_v2, x_l2), (x_v3, x_l3)) : Atm) ∈ P
        · rw [if_pos hin] at h
          injection h with h1 h2
          injection h2 with h2 h3
          exact .inr (.inl ⟨h1.symm, h2.symm, h3.symm, by rw [pos_in]; exact decide_eq_true hin, h9⟩)
        · rw [if_neg hin] at h
          injection h with h1 h2
          injection h2 with h2 h3
          exact .inr (.inr ⟨h1.symm, h2.symm, h3.symm, by rw [pos_in]; exact decide_eq_false hin, h9⟩)
    clear hr2 hR
    go_wp2_with fail
    refine HAD.out.mono ?_
    rintro e w7 ⟨rfl, hop⟩
    obtain ⟨Z', hT7, hk7, hz7⟩ := hop.split
    have hrow7 := hk7.own hrow hz
    have hzz : ∀ b, (Value.slice sa P.length sc).ownBlock = some b → ¬ Z' b := fun b hb => hz7 b (hrow.lt b hb).2 (hz b hb)
    have hS7 := hT.since hk7 hS HB.out
    clear hop hz7 hk7 hrow hz hT hS HAD x_c0 x_c1 x_c2 x_c3 x_c4 x_c5 x_c6 x_c7 x_c8 x_c9 x_c10
    go_wp2_with fail
    have hN : Since w7 w7 := Since.refl _
    have aA := aA0.next hS7
    have xA := xA0.next hS7
    replace hS7 := hS7.trans ((Since.refl w7).drew)
    replace hN := hN.trans ((Since.refl w7).drew)
    replace aA := aA.next ((Since.refl w7).drew)
    replace xA := xA.next ((Since.refl w7).drew)
    refine hx_begin (S := fun W => (Since w1 W) ∧ (Since w7 W) ∧ (At W w.heap.size 0 #[.string ⟨a_s.toArray⟩, .string ⟨a_p.toArray⟩, .int .i64 a_n, .bool a_v0, .string ⟨a_l0.toArray⟩, .bool a_v1, .string ⟨a_l1.toArray⟩, .bool a_v2, .string ⟨a_l2.toArray⟩, .bool a_v3, .string ⟨a_l3.toArray⟩]) ∧ (At W b (ob + k * 11) #[.string ⟨x_s.toArray⟩, .string ⟨x_p.toArray⟩, .int .i64 x_n, .bool x_v0, .string ⟨x_l0.toArray⟩, .bool x_v1, .string ⟨x_l1.toArray⟩, .bool x_v2, .string ⟨x_l2.toArray⟩, .bool x_v3, .string ⟨x_l3.toArray⟩])) (by kernel_rfl) ⟨hS7, hN, aA, xA⟩ (by kernel_rfl) (fun _ _ _ _ _ h => h) (fun hns hQ => ?_)
    refine hx_take (i := 0) (oi := _) (v := .agg #[.string ⟨a_s.toArray⟩, .string ⟨a_p.toArray⟩, .int .i64 a_n, .bool a_v0, .string ⟨a_l0.toArray⟩, .bool a_v1, .string ⟨a_l1.toArray⟩, .bool a_v2, .string ⟨a_l2.toArray⟩, .bool a_v3, .string ⟨a_l3.toArray⟩]) rfl rfl hns (by kernel_rfl) (by kernel_rfl) hQ (by kernel_rfl) (fun W hW => ld_at rfl (by kernel_rfl) (by kernel_rfl) (by kernel_rfl) W (hW.2.2.1)) ⟨hS7, hN, aA, xA⟩ ?_
    refine hx_take (i := 1) (oi := _) (v := .slice (some ⟨b, ob, none⟩) L.length lc) rfl rfl hns (by kernel_rfl) (by kernel_rfl) hQ (by kernel_rfl) (fun _ _ => by kernel_rfl) ⟨hS7, hN, aA, xA⟩ ?_
    refine hx_take (i := 2) (oi := _) (v := .int .i64 (k : Int)) rfl rfl hns (by kernel_rfl) (by kernel_rfl) hQ (by kernel_rfl) (fun _ _ => by kernel_rfl) ⟨hS7, hN, aA, xA⟩ ?_
    refine hx_take (i := 3) (oi := _) (v := .pointer (some ⟨b, ob + k * 11, none⟩)) rfl rfl hns (by kernel_rfl) (by kernel_rfl) hQ (by kernel_rfl) (fun W _ => ix_sl (n := L.length) (c := lc) (K := 11) rfl (by kernel_rfl) (by kernel_rfl) (by kernel_rfl) rfl hlt W) ⟨hS7, hN, aA, xA⟩ ?_
    refine hx_take (i := 4) (oi := _) (v := .agg #[.string ⟨x_s.toArray⟩, .string ⟨x_p.toArray⟩, .int .i64 x_n, .bool x_v0, .string ⟨x_l0.toArray⟩, .bool x_v1, .string ⟨x_l1.toArray⟩, .bool x_v2, .string ⟨x_l2.toArray⟩, .bool x_v3, .string ⟨x_l3.toArray⟩]) rfl rfl hns (by kernel_rfl) (by kernel_rfl) hQ (by kernel_rfl) (fun W hW => ld_at rfl (by kernel_rfl) (by kernel_rfl) (by kernel_rfl) W (hW.2.2.2)) ⟨hS7, hN, aA, xA⟩ ?_
    refine hx_call (i := 5) (oi := _) 22 #[.agg #[.string ⟨a_s.toArray⟩, .string ⟨a_p.toArray⟩, .int .i64 a_n, .bool a_v0, .string ⟨a_l0.toArray⟩, .bool a_v1, .string ⟨a_l1.toArray⟩, .bool a_v2, .string ⟨a_l2.toArray⟩, .bool a_v3, .string ⟨a_l3.toArray⟩], .agg #[.string ⟨x_s.toArray⟩, .string ⟨x_p.toArray⟩, .int .i64 x_n, .bool x_v0, .string ⟨x_l0.toArray⟩, .bool x_v1, .string ⟨x_l1.toArray⟩, .bool x_v2, .string ⟨x_l2.toArray⟩, .bool x_v3, .string ⟨x_l3.toArray⟩]] rfl rfl (by kernel_rfl) (by kernel_rfl) (by kernel_rfl) (HRM.out _) ?_
    rintro e wx61 ⟨mv, rfl, hb⟩
    replace hS7 := hS7.trans hb
    replace hN := hN.trans hb
    replace aA := aA.next hb
    replace xA := xA.next hb
    clear hb
    refine ⟨_, rfl, ⟨hS7, hN, aA, xA⟩, ?_⟩
    refine hx_take (i := 6) (oi := _) (v := .tuple #[mv, .bool r2]) rfl rfl hns (by kernel_rfl) (by kernel_rfl) hQ (by kernel_rfl) (fun _ _ => by kernel_rfl) ⟨hS7, hN, aA, xA⟩ ?_
    refine hx_take (i := 7) (oi := _) (v := mv) rfl rfl hns (by kernel_rfl) (by kernel_rfl) hQ (by kernel_rfl) (fun _ _ => by kernel_rfl) ⟨hS7, hN, aA, xA⟩ ?_
    refine hx_take (i := 8) (oi := _) (v := .bool r2) rfl rfl hns (by kernel_rfl) (by kernel_rfl) hQ (by kernel_rfl) (fun _ _ => by kernel_rfl) ⟨hS7, hN, aA, xA⟩ ?_
    refine hx_take (i := 9) (oi := _) (v := mv) rfl rfl hns (by kernel_rfl) (by kernel_rfl) hQ (by kernel_rfl) (fun _ _ => by kernel_rfl) ⟨hS7, hN, aA, xA⟩ ?_
    refine hx_take (i := 10) (oi := _) (v := .bool r2) rfl rfl hns (by kernel_rfl) (by kernel_rfl) hQ (by kernel_rfl) (fun _ _ => by kernel_rfl) ⟨hS7, hN, aA, xA⟩ ?_
    refine wpAnyH_done (by kernel_rfl) ?_ _
    clear hns hQ
    simp only [List.set_cons_zero, List.set_cons_succ]
    clear xA aA
    have HT8 := Lib.hid (hT7.next hN)
    have hrow8 := own_since hrow7 hN
    have HAR := Lib.hid (own_arow1 hrow8)
    clear hT7 hrow7 hN HRM
    go_wp2_with fail
    go_loopw [16, 15] (fun m t wr => ∃ q : Nat, q ≤ P.length ∧ m = .int .i64 (q : Int) ∧ t = .bool (posF (P.take q) ((x_s, x_p, x_n, (x_v0, x_l0), (x_v1, x_l1), (x_v2, x_l2), (x_v3, x_l3)) : Atm) 0).isSome ∧ Since wx61 wr) (fun m _ _ => P.length - (intOf m).toNat)
    case atStart => exact ⟨0, Nat.zero_le _, rfl, rfl, Since.refl _⟩
    case round =>
    rename World => w8
    obtain ⟨q, hq, rfl, rfl, hS8⟩ := hrel
    obtain ⟨TT, hTT⟩ : ∃ t, Hid ((posF (P.take q) ((x_s, x_p, x_n, (x_v0, x_l0), (x_v1, x_l1), (x_v2, x_l2), (x_v3, x_l3)) : Atm) 0).isSome = t) := ⟨_, rfl⟩
    rw [hTT.out]
    by_cases hqt : q < P.length
    · have hqt2 : (q : Int) < (P.length : Int) := by omega
      have hqt0 : (0 : Int) ≤ (q : Int) := by omega
      have hpm : Hid ((posF (P.take (q + 1)) ((x_s, x_p, x_n, (x_v0, x_l0), (x_v1, x_l1), (x_v2, x_l2), (x_v3, x_l3)) : Atm) 0).isSome = (TT || eqA P[q] ((x_s, x_p, x_n, (x_v0, x_l0), (x_v1, x_l1), (x_v2, x_l2), (x_v3, x_l3)) : Atm))) := by show _ = _; rw [pos_moreA hqt, hTT.out]
      obtain ⟨bs, os, es, hcs, hats⟩ := HAR.out.get (by omega)
      have t1 := hats q hqt
      obtain ⟨⟨z_s, z_p, z_n, ⟨z_v0, z_l0⟩, ⟨z_v1, z_l1⟩, ⟨z_v2, z_l2⟩, ⟨z_v3, z_l3⟩⟩, hzq⟩ : ∃ x, Hid (x = P[q]) := ⟨P[q], rfl⟩
      rw [← hzq.out] at t1 hpm
      have tA0 : At wx61 bs (os + q * 11) #[.string ⟨z_s.toArray⟩, .string ⟨z_p.toArray⟩, .int .i64 z_n, .bool z_v0, .string ⟨z_l0.toArray⟩, .bool z_v1, .string ⟨z_l1.toArray⟩, .bool z_v2, .string ⟨z_l2.toArray⟩, .bool z_v3, .string ⟨z_l3.toArray⟩] := t1
      have tA := tA0.next hS8
      have xA := xA0.next (hS7.trans hS8)
      subst es
      clear hats t1 tA0
      go_wp2_with fail
      cases TT
      case true =>
        replace hS8 := hS8.trans ((Since.refl w8).drew)
        replace tA := tA.next ((Since.refl w8).drew)
        replace xA := xA.next ((Since.refl w8).drew)
        refine hx_begin (S := fun W => (Since wx61 W) ∧ (At W bs (os + q * 11) #[.string ⟨z_s.toArray⟩, .string ⟨z_p.toArray⟩, .int .i64 z_n, .bool z_v0, .string ⟨z_l0.toArray⟩, .bool z_v1, .string ⟨z_l1.toArray⟩, .bool z_v2, .string ⟨z_l2.toArray⟩, .bool z_v3, .string ⟨z_l3.toArray⟩]) ∧ (At W b (ob + k * 11) #[.string ⟨x_s.toArray⟩, .string ⟨x_p.toArray⟩, .int .i64 x_n, .bool x_v0, .string ⟨x_l0.toArray⟩, .bool x_v1, .string ⟨x_l1.toArray⟩, .bool x_v2, .string ⟨x_l2.toArray⟩, .bool x_v3, .string ⟨x_l3.toArray⟩])) (by kernel_rfl) ⟨hS8, tA, xA⟩ (by kernel_rfl) (fun _ _ _ _ _ h => h) (fun hns hQ => ?_)
        refine hx_take (i := 0) (oi := _) (v := .bool true) rfl rfl hns (by kernel_rfl) (by kernel_rfl) hQ (by kernel_rfl) (fun _ _ => by kernel_rfl) ⟨hS8, tA, xA⟩ ?_
        refine hx_take (i := 1) (oi := _) (v := .bool true) rfl rfl hns (by kernel_rfl) (by kernel_rfl) hQ (by kernel_rfl) (fun _ _ => by kernel_rfl) ⟨hS8, tA, xA⟩ ?_
        refine hx_off (i := 2) (oi := _) rfl rfl hns (by kernel_rfl) (by kernel_rfl) hQ (by kernel_rfl) ⟨hS8, tA, xA⟩ ?_
        refine hx_off (i := 3) (oi := _) rfl rfl hns (by kernel_rfl) (by kernel_rfl) hQ (by kernel_rfl) ⟨hS8, tA, xA⟩ ?_
        refine hx_off (i := 4) (oi := _) rfl rfl hns (by kernel_rfl) (by kernel_rfl) hQ (by kernel_rfl) ⟨hS8, tA, xA⟩ ?_
        refine hx_off (i := 5) (oi := _) rfl rfl hns (by kernel_rfl) (by kernel_rfl) hQ (by kernel_rfl) ⟨hS8, tA, xA⟩ ?_
        refine hx_off (i := 6) (oi := _) rfl rfl hns (by kernel_rfl) (by kernel_rfl) hQ (by kernel_rfl) ⟨hS8, tA, xA⟩ ?_
        refine hx_off (i := 7) (oi := _) rfl rfl hns (by kernel_rfl) (by kernel_rfl) hQ (by kernel_rfl) ⟨hS8, tA, xA⟩ ?_
        refine hx_off (i := 8) (oi := _) rfl rfl hns (by kernel_rfl) (by kernel_rfl) hQ (by kernel_rfl) ⟨hS8, tA, xA⟩ ?_
        refine hx_off (i := 9) (oi := _) rfl rfl hns (by kernel_rfl) (by kernel_rfl) hQ (by kernel_rfl) ⟨hS8, tA, xA⟩ ?_
        refine hx_off (i := 10) (oi := _) rfl rfl hns (by kernel_rfl) (by kernel_rfl) hQ (by kernel_rfl) ⟨hS8, tA, xA⟩ ?_
        refine hx_take (i := 11) (oi := _) (v := .bool true) rfl rfl hns (by kernel_rfl) (by kernel_rfl) hQ (by kernel_rfl) (fun _ _ => by kernel_rfl) ⟨hS8, tA, xA⟩ ?_
        refine hx_take (i := 12) (oi := _) (v := .bool true) rfl rfl hns (by kernel_rfl) (by kernel_rfl) hQ (by kernel_rfl) (fun _ _ => by kernel_rfl) ⟨hS8, tA, xA⟩ ?_
        refine wpAnyH_done (by kernel_rfl) ?_ _
        clear hns hQ
        simp only [List.set_cons_zero, List.set_cons_succ]
        clear tA xA
        go_wp2_with fail
        go_roundw
        case rel => exact ⟨q + 1, by omega, by go_num, by rw [hpm.out]; rfl, hS8⟩
        case measure => simp [intOf]; omega
      case false =>
        cases hq9 : eqA ((z_s, z_p, z_n, (z_v0, z_l0), (z_v1, z_l1), (z_v2, z_l2), (z_v3, z_l3)) : Atm) ((x_s, x_p, x_n, (x_v0, x_l0), (x_v1, x_l1), (x_v2, x_l2), (x_v3, x_l3)) : Atm)
        case true =>
          replace hS8 := hS8.trans ((Since.refl w8).drew)
          replace tA := tA.next ((Since.refl w8).drew)
          replace xA := xA.next ((Since.refl w8).drew)
          refine hx_begin (S := fun W => (Since wx61 W) ∧ (At W bs (os + q * 11) #[.string ⟨z_s.toArray⟩, .string ⟨z_p.toArray⟩, .int .i64 z_n, .bool z_v0, .string ⟨z_l0.toArray⟩, .bool z_v1, .string ⟨z_l1.toArray⟩, .bool z_v2, .string ⟨z_l2.toArray⟩, .bool z_v3, .string ⟨z_l3.toArray⟩]) ∧ (At W b (ob + k * 11) #[.string ⟨x_s.toArray⟩, .string ⟨x_p.toArray⟩, .int .i64 x_n, .bool x_v0, .string ⟨x_l0.toArray⟩, .bool x_v1, .string ⟨x_l1.toArray⟩, .bool x_v2, .string ⟨x_l2.toArray⟩, .bool x_v3, .string ⟨x_l3.toArray⟩])) (by kernel_rfl) ⟨hS8, tA, xA⟩ (by kernel_rfl) (fun _ _ _ _ _ h => h) (fun hns hQ => ?_)
          refine hx_take (i := 0) (oi := _) (v := .bool false) rfl rfl hns (by kernel_rfl) (by kernel_rfl) hQ (by kernel_rfl) (fun _ _ => by kernel_rfl) ⟨hS8, tA, xA⟩ ?_
          refine hx_take (i := 1) (oi := _) (v := .bool false) rfl rfl hns (by kernel_rfl) (by kernel_rfl) hQ (by kernel_rfl) (fun _ _ => by kernel_rfl) ⟨hS8, tA, xA⟩ ?_
          refine hx_take (i := 2) (oi := _) (v := .slice (some ⟨bs, os, none⟩) P.length sc) rfl rfl hns (by kernel_rfl) (by kernel_rfl) hQ (by kernel_rfl) (fun _ _ => by kernel_rfl) ⟨hS8, tA, xA⟩ ?_
          refine hx_take (i := 3) (oi := _) (v := .int .i64 (q : Int)) rfl rfl hns (by kernel_rfl) (by kernel_rfl) hQ (by kernel_rfl) (fun _ _ => by kernel_rfl) ⟨hS8, tA, xA⟩ ?_
          refine hx_take (i := 4) (oi := _) (v := .pointer (some ⟨bs, os + q * 11, none⟩)) rfl rfl hns (by kernel_rfl) (by kernel_rfl) hQ (by kernel_rfl) (fun W _ => ix_sl (n := P.length) (c := sc) (K := 11) rfl (by kernel_rfl) (by kernel_rfl) (by kernel_rfl) rfl hqt W) ⟨hS8, tA, xA⟩ ?_
          refine hx_take (i := 5) (oi := _) (v := .agg #[.string ⟨z_s.toArray⟩, .string ⟨z_p.toArray⟩, .int .i64 z_n, .bool z_v0, .string ⟨z_l0.toArray⟩, .bool z_v1, .string ⟨z_l1.toArray⟩, .bool z_v2, .string ⟨z_l2.toArray⟩, .bool z_v3, .string ⟨z_l3.toArray⟩]) rfl rfl hns (by kernel_rfl) (by kernel_rfl) hQ (by kernel_rfl) (fun W hW => ld_at rfl (by kernel_rfl) (by kernel_rfl) (by kernel_rfl) W (hW.2.1)) ⟨hS8, tA, xA⟩ ?_
          refine hx_take (i := 6) (oi := _) (v := .slice (some ⟨b, ob, none⟩) L.length lc) rfl rfl hns (by kernel_rfl) (by kernel_rfl) hQ (by kernel_rfl) (fun _ _ => by kernel_rfl) ⟨hS8, tA, xA⟩ ?_
          refine hx_take (i := 7) (oi := _) (v := .int .i64 (k : Int)) rfl rfl hns (by kernel_rfl) (by kernel_rfl) hQ (by kernel_rfl) (fun _ _ => by kernel_rfl) ⟨hS8, tA, xA⟩ ?_
          refine hx_take (i := 8) (oi := _) (v := .pointer (some ⟨b, ob + k * 11, none⟩)) rfl rfl hns (by kernel_rfl) (by kernel_rfl) hQ (by kernel_rfl) (fun W _ => ix_sl (n := L.length) (c := lc) (K := 11) rfl (by kernel_rfl) (by kernel_rfl) (by kernel_rfl) rfl hlt W) ⟨hS8, tA, xA⟩ ?_
          refine hx_take (i := 9) (oi := _) (v := .agg #[.string ⟨x_s.toArray⟩, .string ⟨x_p.toArray⟩, .int .i64 x_n, .bool x_v0, .string ⟨x_l0.toArray⟩, .bool x_v1, .string ⟨x_l1.toArray⟩, .bool x_v2, .string ⟨x_l2.toArray⟩, .bool x_v3, .string ⟨x_l3.toArray⟩]) rfl rfl hns (by kernel_rfl) (by kernel_rfl) hQ (by kernel_rfl) (fun W hW => ld_at rfl (by kernel_rfl) (by kernel_rfl) (by kernel_rfl) W (hW.2.2)) ⟨hS8, tA, xA⟩ ?_
          refine hx_take (i := 10) (oi := _) (v := .bool true) rfl rfl hns (by kernel_rfl) (by kernel_rfl) hQ (by kernel_rfl) (fun W _ => bin_valT (eqg_atom z_s z_p z_n z_v0 z_v1 z_v2 z_v3 z_l0 z_l1 z_l2 z_l3 x_s x_p x_n x_v0 x_v1 x_v2 x_v3 x_l0 x_l1 x_l2 x_l3 rfl (by kernel_rfl) (by kernel_rfl) W) hq9) ⟨hS8, tA, xA⟩ ?_
          refine hx_take (i := 11) (oi := _) (v := .bool true) rfl rfl hns (by kernel_rfl) (by kernel_rfl) hQ (by kernel_rfl) (fun _ _ => by kernel_rfl) ⟨hS8, tA, xA⟩ ?_
          refine hx_take (i := 12) (oi := _) (v := .bool true) rfl rfl hns (by kernel_rfl) (by kernel_rfl) hQ (by kernel_rfl) (fun _ _ => by kernel_rfl) ⟨hS8, tA, xA⟩ ?_
          refine wpAnyH_done (by kernel_rfl) ?_ _
          clear hns hQ
          simp only [List.set_cons_zero, List.set_cons_succ]
          clear tA xA
          go_wp2_with fail
          go_roundw
          case rel => exact ⟨q + 1, by omega, by go_num, by rw [hpm.out, hq9]; rfl, hS8⟩
          case measure => simp [intOf]; omega
        case false =>
          replace hS8 := hS8.trans ((Since.refl w8).drew)
          replace tA := tA.next ((Since.refl w8).drew)
          replace xA := xA.next ((Since.refl w8).drew)
          refine hx_begin (S := fun W => (Since wx61 W) ∧ (At W bs (os + q * 11) #[.string ⟨z_s.toArray⟩, .string ⟨z_p.toArray⟩, .int .i64 z_n, .bool z_v0, .string ⟨z_l0.toArray⟩, .bool z_v1, .string ⟨z_l1.toArray⟩, .bool z_v2, .string ⟨z_l2.toArray⟩, .bool z_v3, .string ⟨z_l3.toArray⟩]) ∧ (At W b (ob + k * 11) #[.string ⟨x_s.toArray⟩, .string ⟨x_p.toArray⟩, .int .i64 x_n, .bool x_v0, .string ⟨x_l0.toArray⟩, .bool x_v1, .string ⟨x_l1.toArray⟩, .bool x_v2, .string ⟨x_l2.toArray⟩, .bool x_v3, .string ⟨x_l3.toArray⟩])) (by kernel_rfl) ⟨hS8, tA, xA⟩ (by kernel_rfl) (fun _ _ _ _ _ h => h) (fun hns hQ => ?_)
          refine hx_take (i := 0) (oi := _) (v := .bool false) rfl rfl hns (by kernel_rfl) (by kernel_rfl) hQ (by kernel_rfl) (fun _ _ => by kernel_rfl) ⟨hS8, tA, xA⟩ ?_
          refine hx_take (i := 1) (oi := _) (v := .bool false) rfl rfl hns (by kernel_rfl) (by kernel_rfl) hQ (by kernel_rfl) (fun _ _ => by kernel_rfl) ⟨hS8, tA, xA⟩ ?_
          refine hx_take (i := 2) (oi := _) (v := .slice (some ⟨bs, os, none⟩) P.length sc) rfl rfl hns (by kernel_rfl) (by kernel_rfl) hQ (by kernel_rfl) (fun _ _ => by kernel_rfl) ⟨hS8, tA, xA⟩ ?_
          refine hx_take (i := 3) (oi := _) (v := .int .i64 (q : Int)) rfl rfl hns (by kernel_rfl) (by kernel_rfl) hQ (by kernel_rfl) (fun _ _ => by kernel_rfl) ⟨hS8, tA, xA⟩ ?_
          refine hx_take (i := 4) (oi := _) (v := .pointer (some ⟨bs, os + q * 11, none⟩)) rfl rfl hns (by kernel_rfl) (by kernel_rfl) hQ (by kernel_rfl) (fun W _ => ix_sl (n := P.length) (c := sc) (K := 11) rfl (by kernel_rfl) (by kernel_rfl) (by kernel_rfl) rfl hqt W) ⟨hS8, tA, xA⟩ ?_
          refine hx_take (i := 5) (oi := _) (v := .agg #[.string ⟨z_s.toArray⟩, .string ⟨z_p.toArray⟩, .int .i64 z_n, .bool z_v0, .string ⟨z_l0.toArray⟩, .bool z_v1, .string ⟨z_l1.toArray⟩, .bool z_v2, .string ⟨z_l2.toArray⟩, .bool z_v3, .string ⟨z_l3.toArray⟩]) rfl rfl hns (by kernel_rfl) (by kernel_rfl) hQ (by kernel_rfl) (fun W hW => ld_at rfl (by kernel_rfl) (by kernel_rfl) (by kernel_rfl) W (hW.2.1)) ⟨hS8, tA, xA⟩ ?_
          refine hx_take (i := 6) (oi := _) (v := .slice (some ⟨b, ob, none⟩) L.length lc) rfl rfl hns (by kernel_rfl) (by kernel_rfl) hQ (by kernel_rfl) (fun _ _ => by kernel_rfl) ⟨hS8, tA, xA⟩ ?_
          refine hx_take (i := 7) (oi := _) (v := .int .i64 (k : Int)) rfl rfl hns (by kernel_rfl) (by kernel_rfl) hQ (by kernel_rfl) (fun _ _ => by kernel_rfl) ⟨hS8, tA, xA⟩ ?_
          refine hx_take (i := 8) (oi := _) (v := .pointer (some ⟨b, ob + k * 11, none⟩)) rfl rfl hns (by kernel_rfl) (by kernel_rfl) hQ (by kernel_rfl) (fun W _ => ix_sl (n := L.length) (c := lc) (K := 11) rfl (by kernel_rfl) (by kernel_rfl) (by kernel_rfl) rfl hlt W) ⟨hS8, tA, xA⟩ ?_
          refine hx_take (i := 9) (oi := _) (v := .agg #[.string ⟨x_s.toArray⟩, .string ⟨x_p.toArray⟩, .int .i64 x_n, .bool x_v0, .string ⟨x_l0.toArray⟩, .bool x_v1, .string ⟨x_l1.toArray⟩, .bool x_v2, .string ⟨x_l2.toArray⟩, .bool x_v3, .string ⟨x_l3.toArray⟩]) rfl rfl hns (by kernel_rfl) (by kernel_rfl) hQ (by kernel_rfl) (fun W hW => ld_at rfl (by kernel_rfl) (by kernel_rfl) (by kernel_rfl) W (hW.2.2)) ⟨hS8, tA, xA⟩ ?_
          refine hx_take (i := 10) (oi := _) (v := .bool false) rfl rfl hns (by kernel_rfl) (by kernel_rfl) hQ (by kernel_rfl) (fun W _ => bin_valT (eqg_atom z_s z_p z_n z_v0 z_v1 z_v2 z_v3 z_l0 z_l1 z_l2 z_l3 x_s x_p x_n x_v0 x_v1 x_v2 x_v3 x_l0 x_l1 x_l2 x_l3 rfl (by kernel_rfl) (by kernel_rfl) W) hq9) ⟨hS8, tA, xA⟩ ?_
          refine hx_take (i := 11) (oi := _) (v := .bool false) rfl rfl hns (by kernel_rfl) (by kernel_rfl) hQ (by kernel_rfl) (fun _ _ => by kernel_rfl) ⟨hS8, tA, xA⟩ ?_
          refine hx_take (i := 12) (oi := _) (v := .bool false) rfl rfl hns (by kernel_rfl) (by kernel_rfl) hQ (by kernel_rfl) (fun _ _ => by kernel_rfl) ⟨hS8, tA, xA⟩ ?_
          refine wpAnyH_done (by kernel_rfl) ?_ _
          clear hns hQ
          simp only [List.set_cons_zero, List.set_cons_succ]
          clear tA xA
          go_wp2_with fail
          go_roundw
          case rel => exact ⟨q + 1, by omega, by go_num, by rw [hpm.out, hq9]; rfl, hS8⟩
          case measure => simp [intOf]; omega
    have hqt2 : ¬ (q : Int) < (P.length : Int) := by omega
    rw [List.take_of_length_le (by omega)] at hTT
    have hT9 := HT8.out.next hS8
    have hrow9 := own_since hrow8 hS8
    have hS9 := hS7.trans hS8
    clear HAR HT8 hrow8 hS8 hS7 hq
    rcases HC.out with ⟨rfl, rfl, rfl⟩ | ⟨rfl, rfl, rfl, hp1, rfl⟩ | ⟨rfl, rfl, rfl, hp1, rfl⟩
    · clear HC
      go_wp2_with fail
      go_roundw
      case rel => exact ⟨k + 1, _, _, by omega, by go_num, hS9, hT9, hrow9, hzz, by omega⟩
      case measure => simp [intOf]; omega
    · clear HC
      obtain rfl : TT = true := by rw [← hTT.out]; exact hp1
      clear hTT hp1
      go_wp2_with fail
      go_roundw
      case rel => exact ⟨k + 1, _, _, by omega, by go_num, hS9, hT9, hrow9, hzz, by omega⟩
      case measure => simp [intOf]; omega
    · clear HC
      obtain rfl : TT = false := by rw [← hTT.out]; exact hp1
      clear hTT hp1
      have d1 := HD0.out.next hS9
      obtain ⟨x_c0, x_c1, x_c2, x_c3, x_c4, x_c5, x_c6, x_c7, x_c8, x_c9, x_c10⟩ := d1.all
      clear d1
      go_wp2_with (at_builtin; refine wpList_append_own_at _ rfl (.tmp 102) (.tmp 107) 22 rfl w1.heap.size 34 i5 (.agg #[.string ByteArray.empty, .string ByteArray.empty, .int .i64 0, .bool false, .string ByteArray.empty, .bool false, .string ByteArray.empty, .bool false, .string ByteArray.empty, .bool false, .string ByteArray.empty]) 11 136 Tryd.underlying22 I5.out.1 I5.out.2.1 I5.out.2.2.1 I5.out.2.2.2 rfl (by decide) _ P.length (P.flatMap atmL) rfl (hrow9.alloc _) ⟨w8.heap.size, 0, none⟩ 1 1 (#[.string ⟨x_s.toArray⟩, .string ⟨x_p.toArray⟩, .int .i64 x_n, .bool x_v0, .string ⟨x_l0.toArray⟩, .bool x_v1, .string ⟨x_l1.toArray⟩, .bool x_v2, .string ⟨x_l2.toArray⟩, .bool x_v3, .string ⟨x_l3.toArray⟩] : Array Value).toList rfl rfl (cells_row1 _ _ _) (by simp [Value.oneCell']) (by unfold maxLen; omega) (by omega) (by have := hS9.size; simp; omega) ?_; intro v10 w10 hown10 hg10 _ hat10; obtain ⟨a10, c10, k10⟩ : ∃ a k, v10 = .slice a (P.length + 1) k := own_slice hown10; subst k10; have hx10 := add_tail (c := ((x_s, x_p, x_n, (x_v0, x_l0), (x_v1, x_l1), (x_v2, x_l2), (x_v3, x_l3)) : Atm)) hT9 hS9 hrow9 hzz hg10 hown10 rfl hat10; clear hown10 hg10 hat10)
      clear x_c0 x_c1 x_c2 x_c3 x_c4 x_c5 x_c6 x_c7 x_c8 x_c9 x_c10 hrow9 hzz hT9 hS9
      obtain ⟨hT10, hS10, hrow10, hz10⟩ := hx10
      go_roundw
      case rel => exact ⟨k + 1, _, _, by omega, by go_num, hS10, hT10, hrow10, hz10, by rw [List.length_append, List.length_singleton]; omega⟩
      case measure => simp [intOf]; omega
  have hlt2 : ¬ (k : Int) < (L.length : Int) := by omega
  have hi0 : 0 < ([(c, P, [])] : List TCall).length := by simp
  have HAN : Hid (∀ W : World, Since wo W → Calls Tryd.prog 23 #[.pointer (some ⟨g, 0, none⟩), .int .i64 0] W fun e w' => ∃ v', e = .returned v' ∧ w'.ownsRow W.heap.size 34 11 v' P.length (P.flatMap atmL) ∧ Since W w') := fun W h => tans_t 0 W (hT.next h) hi0
  have HCN := Lib.hid (fun W (h : Since wo W) => tcount_t W (hT.next h))
  rw [show ((cntS [(c, P, [])] : Nat) : Int) = (P.length : Int) by show ((P.length + 0 : Nat) : Int) = _; rfl] at HCN
  have HSA := Lib.hid (fun W v (h : Since wo W) (hr : W.ownsRow 0 34 11 v P.length (P.flatMap atmL)) => same_atms v (.slice sa P.length sc) P W (own_arow1 hr) (anext (own_arow1 hrow) h) (by omega))
  clear hT hz hi0
  go_wp2_with fail
  refine (HAN.out _ (Since.refl _)).mono ?_
  rintro e w7 ⟨v7, rfl, hr7, hb7⟩
  replace hr7 : w7.ownsRow wo.heap.size 34 11 v7 P.length (P.flatMap atmL) := hr7
  obtain ⟨ga, gc, rfl⟩ : ∃ a c, v7 = .slice a P.length c := own_slice hr7
  go_wp2_with fail
  refine (HSA.out _ _ hb7 (own_base hr7 (Nat.zero_le _))).mono ?_
  rintro e w8 ⟨rfl, hb8⟩
  have hS8 := hb7.trans hb8
  go_wp2_with fail
  refine (HCN.out _ hS8).mono ?_
  rintro e w9 ⟨rfl, hb9⟩
  have hS9 := hS8.trans hb9
  have hr9 := own_since hr7 (hb8.trans hb9)
  clear hb7 hb8 hb9 hS8 hr7 HCN
  go_wp2_with fail
  have HGT : Hid (0 < P.length → ∃ gb, ga = some ⟨gb, 0, none⟩ ∧ wo.heap.size ≤ gb ∧ w9.there gb 0 (P.length * 11)) := fun h0 => own_there hr9 h0
  obtain ⟨G, hG⟩ : ∃ G : World → Prop, Hid (G = fun W => 0 < P.length → ∃ gb, ga = some ⟨gb, 0, none⟩ ∧ wo.heap.size ≤ gb ∧ W.there gb 0 (P.length * 11)) := ⟨fun W => 0 < P.length → ∃ gb, ga = some ⟨gb, 0, none⟩ ∧ wo.heap.size ≤ gb ∧ W.there gb 0 (P.length * 11), rfl⟩
  have hG9 : G w9 := by rw [hG.out]; exact HGT.out
  clear hr9 HGT
  go_loopw [18] (fun m wr => ∃ q : Nat, q ≤ P.length ∧ m = .int .i64 (q : Int) ∧ Since wo wr ∧ G wr) (fun m _ => P.length - (intOf m).toNat)
  case atStart => exact ⟨0, Nat.zero_le _, rfl, hS9, hG9⟩
  case round =>
  rename World => w10
  clear hS9 hG9
  obtain ⟨q, hq, rfl, hS10, hG10⟩ := hrel
  by_cases hqt : q < P.length
  · have hqt2 : (q : Int) < (P.length : Int) := by omega
    have hqt0 : (0 : Int) ≤ (q : Int) := by omega
    obtain ⟨gb, rfl, hgb, hth⟩ : ∃ gb, ga = some ⟨gb, 0, none⟩ ∧ wo.heap.size ≤ gb ∧ w10.there gb 0 (P.length * 11) := by
      have h := hG10
      rw [hG.out] at h
      exact h (by omega)
    have HTH : Hid (w10.there gb (q * 11) 11) := fun j hj => by
      have := hth (q * 11 + j) (by omega)
      rw [Nat.zero_add] at this
      exact this
    have hone : Hid (((#[.string ⟨#[]⟩, .string ⟨#[]⟩, .int .i64 0, .bool false, .string ⟨#[]⟩, .bool false, .string ⟨#[]⟩, .bool false, .string ⟨#[]⟩, .bool false, .string ⟨#[]⟩] : Array Value).all (·.oneCell')) = true) := by show _ = _; simp [Value.oneCell']
    have hG11 : G (w10.setCells gb (q * 11) (#[.string ⟨#[]⟩, .string ⟨#[]⟩, .int .i64 0, .bool false, .string ⟨#[]⟩, .bool false, .string ⟨#[]⟩, .bool false, .string ⟨#[]⟩, .bool false, .string ⟨#[]⟩] : Array Value).toList) := by rw [hG.out]; exact fun _ => ⟨gb, rfl, hgb, World.there_setCells hth _ _ _⟩
    have hS11 : Since wo (w10.setCells gb (q * 11) (#[.string ⟨#[]⟩, .string ⟨#[]⟩, .int .i64 0, .bool false, .string ⟨#[]⟩, .bool false, .string ⟨#[]⟩, .bool false, .string ⟨#[]⟩, .bool false, .string ⟨#[]⟩] : Array Value).toList) := since_setCells hgb _ _ hS10
    clear hth
    go_wp2_with (refine wpList_store_mid rfl 34 (.tmp 132) (.tmp 131) rfl gb (q * 11) #[.string ⟨#[]⟩, .string ⟨#[]⟩, .int .i64 0, .bool false, .string ⟨#[]⟩, .bool false, .string ⟨#[]⟩, .bool false, .string ⟨#[]⟩, .bool false, .string ⟨#[]⟩] (by first | rfl | simp) rfl HTH.out ainfoC hone.out ?_; generalize w10.setCells gb (q * 11) (#[.string ⟨#[]⟩, .string ⟨#[]⟩, .int .i64 0, .bool false, .string ⟨#[]⟩, .bool false, .string ⟨#[]⟩, .bool false, .string ⟨#[]⟩, .bool false, .string ⟨#[]⟩] : Array Value).toList = w11 at *)
    go_roundw
    case rel => exact ⟨q + 1, by omega, by go_num, hS11, hG11⟩
    case measure => simp [intOf]; omega
  have hqt2 : ¬ (q : Int) < (P.length : Int) := by omega
  clear hG10
  go_wp2_with fail
  refine (HAN.out _ hS10).mono ?_
  rintro e w11 ⟨v11, rfl, hr11, hb11⟩
  replace hr11 : w11.ownsRow w10.heap.size 34 11 v11 P.length (P.flatMap atmL) := hr11
  obtain ⟨ga2, gc2, rfl⟩ : ∃ a c, v11 = .slice a P.length c := own_slice hr11
  have hS11 := hS10.trans hb11
  go_wp2_with fail
  refine (HSA.out _ _ hS11 (own_base hr11 (Nat.zero_le _))).mono ?_
  rintro e w12 ⟨rfl, hb12⟩
  go_wp2_with fail
  go_ret
  exact ⟨rfl, hS0.trans (hS.trans (hS11.trans hb12))⟩
end Go.Proofs.YtbgdljcgbhhfdaaDoor
