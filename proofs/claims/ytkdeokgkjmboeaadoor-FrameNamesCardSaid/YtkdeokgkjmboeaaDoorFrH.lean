/- frame.Response. -/
import Derived.Test.YtkdeokgkjmboeaaDoorFrG
import Derived.Test.YtkdeokgkjmboeaaDoorAppendOwn
import Derived.Deep.RegionHeld3
namespace Go.Proofs.YtkdeokgkjmboeaaDoor
open Go.RowKit

theorem fnumber_any (n : Nat) (w : World) (hn : n < 4294967296) :
    Calls Tryd.prog 28 #[.int .i64 (n : Int)] w fun e w' => e = .returned (.string ⟨(numL n).toArray⟩) ∧ Since w w' := by
  have ew : IntKind.u32.wrap (n : Int) = (n : Int) := IntWalk.u32_in _ (by omega)
  have H := Lib.hid (fun W => number_any n W hn)
  generalize numL n = X at *
  go_enter Tryd.func28, Tryd.ntmps28
  go_wp2_with fail
  refine (H.out _).mono ?_
  rintro e w1 ⟨rfl, hb⟩
  go_wp2_with fail
  go_ret
  exact ⟨rfl, hb⟩
theorem own_far' {w w' : World} {base g : Nat} {e : TypeId} {size : Nat} {v : Value} {n : Nat} {xs : List Value} (h : w.ownsRow base e size v n xs) (hg : w.grownBy w' (some g)) (hb : g < base) : w'.ownsRow base e size v n xs := by
  refine h.kept hg ?_
  cases hv : v.ownBlock with
  | none => exact .inl rfl
  | some b =>
    refine .inr fun he => ?_
    injection he with he
    have := (h.lt b hv).1
    omega
theorem light_light {a : Atm} (h : lightB a = true) : Light a := by
  simp only [lightB, Bool.and_eq_true, decide_eq_true_eq, List.all_eq_true] at h
  obtain ⟨⟨h1, h2⟩, h3⟩ := h
  exact ⟨by omega, by omega, fun t ht => by have := h3 t ht; omega⟩
theorem light_fits {a : Atm} (h : lightB a = true) : FitsA a := by
  obtain ⟨h1, h2, h3⟩ := light_light h
  unfold FitsA maxLen
  exact ⟨by omega, by omega, fun t ht => by have := h3 t ht; omega⟩
def chB (b : Bool) : UInt8 := if b then 1 else 0
/-- A response's bytes. -/
def rsB (x : Rsp) : List UInt8 := if x.1 ≠ 0 then [UInt8.ofNat x.1.toNat] else 0 :: chB x.2.1 :: (numL x.2.2.1.length ++ (x.2.2.1.flatMap atomB ++ textB x.2.2.2))
theorem infoStrF : (Tryd.prog.info? 9).map (fun i => (i.zero, i.size, i.bytes)) = some (some (.string ⟨#[]⟩), 1, 16) := by kernel_rfl
theorem row_of_lit (W : World) (t : TypeId) (L : List (List UInt8)) (g n : Nat) (hg : W.heap.size = g) (hn : L.length = n) : Row (W.alloc (.cells (L.map strV).toArray t)) (.slice (some ⟨g, 0, none⟩) n n) L.length (L.map strV) := by
  subst hg; subst hn
  refine .inr ⟨W.heap.size, 0, L.length, rfl, Nat.le_refl _, fun j hj => ?_⟩
  rw [World.cell?_alloc_new, Nat.zero_add]
  simpa using List.getElem?_eq_getElem hj
theorem odd_valid {L : List Atm} (h : (L.any oddB) = false) : ∀ x ∈ L, checkA x = 0 ∧ groundA x = true := by
  intro x hx
  have h1 := List.any_eq_false.1 h x hx
  simp only [oddB, Bool.or_eq_true, bne_iff_ne, ne_eq, Bool.not_eq_true', not_or, Bool.not_eq_false] at h1
  exact ⟨Decidable.byContradiction h1.1, h1.2⟩
theorem mayRs_cases {x : Rsp} (h : mayRs x = true) : (x.1 ≠ 0 ∧ 0 < x.1 ∧ x.1 ≤ 16 ∧ x.2.1 = false ∧ x.2.2.1 = [] ∧ x.2.2.2 = []) ∨ (x.1 = 0 ∧ isF x.2.2.1 = true ∧ (∀ a ∈ x.2.2.1, checkA a = 0 ∧ groundA a = true) ∧ (moreB x && x.2.1) = false) := by
  unfold mayRs at h
  split at h
  · cases h
  · rename_i hc
    split at h
    · rename_i h0
      rw [Bool.and_eq_true] at h
      obtain ⟨h1, h2⟩ := h
      have h3 : moreB x = false := by simpa using h1
      unfold moreB at h3
      rw [Bool.or_eq_false_iff, decide_eq_false_iff_not] at h3
      refine .inl ⟨h0, by omega, by omega, by simpa using h2, List.eq_nil_of_length_eq_zero (by omega), by simpa using h3.2⟩
    · rename_i h0
      split at h
      · cases h
      · rename_i hm
        rw [Bool.and_eq_true] at h
        exact .inr ⟨by simpa using h0, h.1, odd_valid (by simpa using h.2), by simpa using hm⟩
set_option maxHeartbeats 4000000 in
set_option maxRecDepth 100000 in
theorem response_no (code : Int) (ch : Bool) (v : Value) (L : List Atm) (ct : List UInt8) (w : World) (hE : Env w) (hv : AtmRow w v L) (hl : ∀ x ∈ L, FitsA x) (hg : ∀ x ∈ L, Light x) (hm : L.length ≤ 1000000) (hr : mayRs (code, ch, L, ct) = false) :
    Calls Tryd.prog 12 #[.agg #[.int .i64 code, .bool ch, v, .string ⟨ct.toArray⟩]] w fun e w' => e = .returned (.tuple #[.string ⟨#[]⟩, .int .i64 2]) ∧ Since w w' := by
  obtain ⟨a, c, rfl⟩ := hv.form
  have hA : Since w (w.alloc (.cells #[.int .i64 code, .bool ch, .slice a L.length c, .string ⟨ct.toArray⟩] 32)) := (Since.refl _).alloc _
  have HM := Lib.hid (mayRs_any code ch (.slice a L.length c) L ct _ (hE.next hA) (hv.next hA) hl hg hm)
  rw [hr] at HM
  clear hr hv hE hl hg
  go_enter Tryd.func12, Tryd.ntmps12
  go_wp2_with fail
  refine HM.out.mono ?_
  rintro e w1 ⟨rfl, hb⟩
  go_wp2_with fail
  go_ret2
  exact ⟨rfl, hA.trans hb⟩
set_option maxHeartbeats 4000000 in
set_option maxRecDepth 100000 in
theorem response_err (code : Nat) (a : Option Addr) (c : Nat) (w : World) (hE : Env w) (h0 : 0 < code) (h16 : code ≤ 16) (hr : mayRs ((code : Int), false, [], []) = true) :
    Calls Tryd.prog 12 #[.agg #[.int .i64 (code : Int), .bool false, .slice a 0 c, .string ⟨#[]⟩]] w fun e w' => e = .returned (.tuple #[.string ⟨#[UInt8.ofNat code]⟩, .int .i64 0]) ∧ Since w w' := by
  have hv : AtmRow w (.slice a 0 c) [] := ⟨a, c, rfl, fun h => absurd h (Nat.lt_irrefl 0)⟩
  have hA : Since w (w.alloc (.cells #[.int .i64 (code : Int), .bool false, .slice a 0 c, .string ⟨#[]⟩] 32)) := (Since.refl _).alloc _
  have HM := Lib.hid (mayRs_any (code : Int) false (.slice a 0 c) [] [] _ (hE.next hA) (hv.next hA) (by simp) (by simp) (by simp))
  rw [hr] at HM
  have r0 : (w.alloc (.cells #[.int .i64 (code : Int), .bool false, .slice a 0 c, .string ⟨#[]⟩] 32)).cell? ⟨w.heap.size, 0, none⟩ = some (.int .i64 (code : Int)) := by rw [World.cell?_alloc_new]; rfl
  have HO := Lib.hid (fun W => one_any code W (by omega))
  have hne : ((code : Int) != 0) = true := by simp; omega
  clear hr hv hE
  go_enter Tryd.func12, Tryd.ntmps12
  go_wp2_with fail
  refine HM.out.mono ?_
  rintro e w1 ⟨rfl, hb⟩
  replace r0 := hb.cell r0
  go_wp2_with fail
  refine (HO.out _).mono ?_
  rintro e w2 ⟨rfl, hb2⟩
  go_wp2_with fail
  go_ret2
  exact ⟨rfl, (hA.trans hb).trans hb2⟩
/-- The answers' response. -/
theorem cellsN (W : World) (cs : Array Value) (t : TypeId) (g : Nat) (hg : W.heap.size = g) : ∀ j u, cs.toList[j]? = some u → (W.alloc (.cells cs t)).cell? ((⟨g, 0, none⟩ : Addr).add j) = some u := by
  subst hg
  intro j u hu
  have hadd : (⟨W.heap.size, 0, none⟩ : Addr).add j = ⟨W.heap.size, j, none⟩ := by unfold Addr.add; split <;> simp_all
  rw [hadd, World.cell?_alloc_new]
  simpa using hu
theorem cell_grown {W W' : World} {row : Option Nat} (hg : W.grownBy W' row) {b j : Nat} {u : Value} (hne : some b ≠ row) (hc : W.cell? ⟨b, j, none⟩ = some u) : W'.cell? ⟨b, j, none⟩ = some u :=
  (World.cell?_of_block (hg.block b (World.block_lt_of_cell? W _ hc) hne)).trans hc
theorem own_since {w w' : World} {base : Nat} {e : TypeId} {size : Nat} {v : Value} {n : Nat} {xs : List Value} (h : w.ownsRow (base + 1) e size v n xs) (hs : Since w w') : w'.ownsRow (base + 1) e size v n xs :=
  own_far' h (gsince (World.grownBy.refl _ (some 0)) hs) (Nat.succ_pos _)
set_option maxHeartbeats 8000000 in
set_option maxRecDepth 100000 in
theorem response_yes (ch : Bool) (v : Value) (L : List Atm) (ct : List UInt8) (w : World) (hE : Env w) (hv : AtmRow w v L) (hg : ∀ x ∈ L, lightB x = true) (hm : L.length ≤ 10000) (hr : mayRs (0, ch, L, ct) = true) (hT : (rsB (0, ch, L, ct)).length ≤ 500000) :
    Calls Tryd.prog 12 #[.agg #[.int .i64 0, .bool ch, v, .string ⟨ct.toArray⟩]] w fun e w' => e = .returned (.tuple #[.string ⟨(rsB (0, ch, L, ct)).toArray⟩, .int .i64 0]) ∧ Since w w' := by
  obtain ⟨a, c, rfl⟩ := hv.form
  have hfit : ∀ x ∈ L, FitsA x := fun x hx => light_fits (hg x hx)
  have hli : ∀ x ∈ L, Light x := fun x hx => light_light (hg x hx)
  have hval : ∀ x ∈ L, checkA x = 0 ∧ groundA x = true := by
    rcases mayRs_cases hr with ⟨h, _⟩ | ⟨_, _, h, _⟩
    · exact absurd rfl h
    · exact h
  have hA : Since w (w.alloc (.cells #[.int .i64 0, .bool ch, .slice a L.length c, .string ⟨ct.toArray⟩] 32)) := (Since.refl _).alloc _
  have HM := Lib.hid (mayRs_any 0 ch (.slice a L.length c) L ct _ (hE.next hA) (hv.next hA) hfit hli (by omega))
  rw [hr] at HM
  have hTd : rsB (0, ch, L, ct) = [0] ++ ([chB ch] ++ (numL L.length ++ (L.flatMap atomB ++ (numL ct.length ++ ct)))) := rfl
  obtain ⟨T, hTT⟩ : ∃ T, Hid (T = rsB (0, ch, L, ct)) := ⟨_, rfl⟩
  rw [← hTT.out] at hT hTd ⊢
  obtain ⟨N, hN⟩ : ∃ N, Hid (N = numL L.length) := ⟨_, rfl⟩
  obtain ⟨K, hK⟩ : ∃ K, Hid (K = numL ct.length) := ⟨_, rfl⟩
  have hctl : ct.length ≤ 500000 := by
    have := congrArg List.length hTd
    simp only [List.length_append] at this
    omega
  rw [← hN.out, ← hK.out] at hTd
  have HTD := Lib.hid hTd
  have HO0 : Hid (∀ W, Calls Tryd.prog 26 #[.int .i64 0] W fun e w' => e = .returned (.string ⟨#[0]⟩) ∧ Since W w') := fun W => one_any 0 W (by omega)
  have HO1 : Hid (∀ W, Calls Tryd.prog 26 #[.int .i64 1] W fun e w' => e = .returned (.string ⟨#[1]⟩) ∧ Since W w') := fun W => one_any 1 W (by omega)
  have HN := Lib.hid (fun W => fnumber_any L.length W (by omega))
  have HK := Lib.hid (fun W => fnumber_any ct.length W (by omega))
  rw [← hN.out] at HN
  rw [← hK.out] at HK
  have r0 : (w.alloc (.cells #[.int .i64 0, .bool ch, .slice a L.length c, .string ⟨ct.toArray⟩] 32)).cell? ⟨w.heap.size, 0, none⟩ = some (.int .i64 0) := by rw [World.cell?_alloc_new]; rfl
  have r1 : (w.alloc (.cells #[.int .i64 0, .bool ch, .slice a L.length c, .string ⟨ct.toArray⟩] 32)).cell? ⟨w.heap.size, 1, none⟩ = some (.bool ch) := by rw [World.cell?_alloc_new]; rfl
  have r2 : (w.alloc (.cells #[.int .i64 0, .bool ch, .slice a L.length c, .string ⟨ct.toArray⟩] 32)).cell? ⟨w.heap.size, 2, none⟩ = some (.slice a L.length c) := by rw [World.cell?_alloc_new]; rfl
  have r3 : (w.alloc (.cells #[.int .i64 0, .bool ch, .slice a L.length c, .string ⟨ct.toArray⟩] 32)).cell? ⟨w.heap.size, 3, none⟩ = some (.string ⟨ct.toArray⟩) := by rw [World.cell?_alloc_new]; rfl
  have hsz : w.heap.size + 1 ≤ (w.alloc (.cells #[.int .i64 0, .bool ch, .slice a L.length c, .string ⟨ct.toArray⟩] 32)).heap.size := by simp
  have HE := Lib.hid hE
  have HV := Lib.hid hv
  have HG := Lib.hid hg
  have HVA := Lib.hid hval
  obtain ⟨i0, hi0, hz0, hz1, hz2⟩ := info_parts infoStrF
  have HI := Lib.hid (And.intro hi0 (And.intro hz0 (And.intro hz1 hz2)))
  clear hi0 hz0 hz1 hz2 hr hv hE hg hfit hli hval hTT hN hK hTd
  cases ch
  case false =>
    go_enter Tryd.func12, Tryd.ntmps12
    go_wp2_with fail
    refine HM.out.mono ?_
    rintro e w1 ⟨rfl, hb⟩
    replace r0 := hb.cell r0
    replace r1 := hb.cell r1
    replace r2 := hb.cell r2
    replace r3 := hb.cell r3
    replace hA := hA.trans hb
    have hz1 : w.heap.size + 1 ≤ w1.heap.size := Nat.le_trans hsz hb.size
    clear hb HM hsz
    go_wp2_with fail
    go_region_held3 (fun w' => (w'.cell? ⟨w.heap.size, 2, none⟩ = some (.slice a L.length c) ∧ w'.cell? ⟨w.heap.size, 3, none⟩ = some (.string ⟨ct.toArray⟩)) ∧ Since w w' ∧ w.heap.size + 1 ≤ w'.heap.size)
      ((go_split_ands; (refine ⟨⟨?_, ?_⟩, ?_, ?_⟩) <;> (first | assumption | (refine Since.drew ?_; assumption) | (refine Since.cell hb ?_; assumption) | (refine Since.trans ?_ hb; assumption) | (refine Nat.le_trans ?_ hb.size; assumption) | (refine Since.alloc ?_ _; assumption) | (refine Since.cell (Since.alloc (Since.refl _) _) ?_; assumption) | (refine Nat.le_trans (by assumption) ?_; simp))))
      (first
        | (go_at_call 26; first | ((with_reducible refine (HO0.out _).mono ?_); rintro e w3 ⟨rfl, hb⟩) | ((with_reducible refine (HO1.out _).mono ?_); rintro e w3 ⟨rfl, hb⟩))
        | (go_at_call 28; ((with_reducible refine (HN.out _).mono ?_); rintro e w4 ⟨rfl, hb⟩; have hz4 : w.heap.size + 1 ≤ w4.heap.size := Nat.le_trans (by go_split_ands; assumption) hb.size)))
    go_split_ands
    have hS5 : Since w (w4.alloc (.cells #[.string ⟨#[0]⟩, .string ⟨#[0]⟩, .string ⟨N.toArray⟩] 9)) := by assumption
    have q2 : (w4.alloc (.cells #[.string ⟨#[0]⟩, .string ⟨#[0]⟩, .string ⟨N.toArray⟩] 9)).cell? ⟨w.heap.size, 2, none⟩ = some (.slice a L.length c) := by assumption
    have q3 : (w4.alloc (.cells #[.string ⟨#[0]⟩, .string ⟨#[0]⟩, .string ⟨N.toArray⟩] 9)).cell? ⟨w.heap.size, 3, none⟩ = some (.string ⟨ct.toArray⟩) := by assumption
    have how5 : (w4.alloc (.cells #[.string ⟨#[0]⟩, .string ⟨#[0]⟩, .string ⟨N.toArray⟩] 9)).ownsRow (w.heap.size + 1) 9 1 (.slice (some ⟨w4.heap.size, 0, none⟩) 3 3) ([[0], [0], N] : List (List UInt8)).length (([[0], [0], N] : List (List UInt8)).map strV) := World.ownsRow_lit w4 #[.string ⟨#[0]⟩, .string ⟨#[0]⟩, .string ⟨N.toArray⟩] 3 hz4 (by unfold maxLen; omega) rfl
    generalize w4.alloc (.cells #[.string ⟨#[0]⟩, .string ⟨#[0]⟩, .string ⟨N.toArray⟩] 9) = w5 at *
    have hT5 : Hid (T = ([[0], [0], N] : List (List UInt8)).flatten ++ ((L.drop 0).flatMap atomB ++ (K ++ ct))) := by
      show _ = _
      rw [HTD.out]; simp [chB]
    clear r0 r1 r2 r3 hA hz1 hz4 hb HN HO0 HO1 HTD
    go_wp2_with fail
    have Q3 := Lib.hid q3
    clear q2 q3
    go_loopw [5, 32] (fun v i wr => ∃ (k : Nat) (P : List (List UInt8)), k ≤ L.length ∧ i = .int .i64 (k : Int) ∧ P.length ≤ 3 + k ∧ wr.ownsRow (w.heap.size + 1) 9 1 v P.length (P.map strV) ∧ (Since w wr ∧ wr.cell? ⟨w.heap.size, 3, none⟩ = some (.string ⟨ct.toArray⟩)) ∧ Hid (T = P.flatten ++ ((L.drop k).flatMap atomB ++ (K ++ ct)))) (fun _ i _ => L.length - (intOf i).toNat)
    case atStart => exact ⟨0, [[0], [0], N], by omega, rfl, by simp, how5, ⟨hS5, Q3.out⟩, hT5.out⟩
    case round =>
      clear how5 hT5
      obtain ⟨k, P, hk, rfl, hP, how, ⟨hS, q3⟩, hres⟩ := hrel
      by_cases hlt : k < L.length
      · obtain ⟨_, b, o, he, hc, hat⟩ := (HV.out.next hS).get (by omega)
        cases he
        have hx := hat k hlt
        have hgx := HG.out _ (List.getElem_mem hlt)
        have hvx := (HVA.out _ (List.getElem_mem hlt)).1
        have hres2 : T = (P.flatten ++ atomB L[k]) ++ ((L.drop (k + 1)).flatMap atomB ++ (K ++ ct)) := by
          rw [hres.out, List.drop_eq_getElem_cons hlt, List.flatMap_cons]; simp only [List.append_assoc]
        have HR2 := Lib.hid hres2
        have hkl : (k : Int) < (L.length : Int) := by omega
        have hz5 : w.heap.size + 1 ≤ wr.heap.size := World.block_lt_of_cell? _ _ q3
        clear hat hres hres2
        generalize L[k] = x at *
        obtain ⟨x_s, x_p, x_n, ⟨x_v0, x_l0⟩, ⟨x_v1, x_l1⟩, ⟨x_v2, x_l2⟩, ⟨x_v3, x_l3⟩⟩ := x
        obtain ⟨x_c0, x_c1, x_c2, x_c3, x_c4, x_c5, x_c6, x_c7, x_c8, x_c9, x_c10⟩ := hx.all
        have hE1 := HE.out.next hS
        have HCA := Lib.hid (fun W hE => catom_yes x_s x_p x_n x_v0 x_v1 x_v2 x_v3 x_l0 x_l1 x_l2 x_l3 W (light_fits hgx) hE hgx hvx)
        generalize atomB ((x_s, x_p, x_n, (x_v0, x_l0), (x_v1, x_l1), (x_v2, x_l2), (x_v3, x_l3)) : Atm) = X at *
        clear hx hgx hvx
        go_wp2_with fail
        refine (HCA.out _ (hE1.next ((Since.refl _).alloc _))).mono ?_
        rintro e w6 ⟨rfl, hb⟩
        replace hb := Since.trans ((Since.refl _).alloc _) hb
        have how6 := own_since how hb
        have hS6 := hS.trans hb
        have q6 := hb.cell q3
        have Q6 := Lib.hid q6
        clear q6
        have hz6 : w.heap.size + 1 ≤ w6.heap.size := Nat.le_trans hz5 hb.size
        clear how hb HCA q3 x_c0 x_c1 x_c2 x_c3 x_c4 x_c5 x_c6 x_c7 x_c8 x_c9 x_c10
        go_wp2_with (at_builtin; refine wpList_append_own _ rfl (.tmp 41) (.tmp 43) 60 rfl (w.heap.size + 1) 9 i0 (.string ⟨#[]⟩) 1 16 Tryd.underlying60 HI.out.1 HI.out.2.1 HI.out.2.2.1 HI.out.2.2.2 rfl (by decide) u5 P.length (P.map strV) rfl (how6.alloc _) ⟨w6.heap.size, 0, none⟩ 1 1 [strV X] rfl rfl (cell_one_new _ _ _) (by simp [strV, Value.oneCell']) (by unfold maxLen; omega) (by omega) (by simp; omega) ?_; intro v9 w9 hown9 hg9 _; have hne9 : ∀ q, u5.ownBlock = some q → w.heap.size + 1 ≤ q := fun q hq => (how6.lt q hq).1; have hS9 : Since w w9 := Below.grown (hS6.alloc _) hg9 (hS6.alloc _).size (fun q hq => by have := hne9 q hq; omega); have q9 := cell_grown hg9 (fun e => by have := hne9 _ e.symm; omega) (Since.cell ((Since.refl _).alloc _) Q6.out))
        go_roundw
        case rel =>
          refine ⟨k + 1, P ++ [X], by omega, by go_num, by simp; omega, ?_, ⟨hS9, q9⟩, ?_⟩
          · simpa using hown9
          · show _ = _
            rw [HR2.out]; simp
        case measure => simp [intOf]; omega
      · have hT9 : T = (P ++ [K, ct]).flatten := by
          rw [hres.out, List.drop_eq_nil_of_le (by omega)]; simp
        have hPl : P.length ≤ 10003 := by omega
        have HJ : Hid (∀ W v, Row W v (P ++ [K, ct]).length ((P ++ [K, ct]).map strV) → Calls Tryd.prog 21 #[v] W fun e w' => e = .returned (.string ⟨T.toArray⟩) ∧ Since W w') := by
          intro W v hr
          have := fjoin_any v (P ++ [K, ct]) W hr (by simp; omega) (by rw [← hT9]; omega)
          rwa [← hT9] at this
        have q3d : wr.drew.cell? ⟨w.heap.size, 3, none⟩ = some (.string ⟨ct.toArray⟩) := q3
        have howd : wr.drew.ownsRow (w.heap.size + 1) 9 1 u5 P.length (P.map strV) := how
        have hSd : Since w wr.drew := hS.drew
        have hz5 : w.heap.size < wr.heap.size := World.block_lt_of_cell? _ _ q3
        clear hres hT9
        go_wp2_with fail
        go_region_law (first
          | (go_simp; go_at_call 28; (with_reducible refine (HK.out _).mono ?_); rintro e w8 ⟨rfl, hb8⟩; have q8 := hb8.cell q3d; have how8 := own_since howd hb8; have hS8 := hSd.trans hb8; have hz8 : w.heap.size < w8.heap.size := World.block_lt_of_cell? _ _ q8)
          | ((refine step_append_own rfl (.tmp 46) (.tmp 53) 60 rfl (w.heap.size + 1) 9 i0 (.string ⟨#[]⟩) 1 16 Tryd.underlying60 HI.out.1 HI.out.2.1 HI.out.2.2.1 HI.out.2.2.2 rfl (by decide) u5 P.length (P.map strV) rfl (how8.alloc _) ⟨w8.heap.size, 0, none⟩ 2 2 [strV K, strV ct] rfl rfl (cellsN _ #[strV K, strV ct] _ _ rfl) (by simp [strV, Value.oneCell']) (by unfold maxLen; omega) (by omega) (by simp; omega) ?_); intro v9 w9 hown9 hg9 _; have hne9 : ∀ q, u5.ownBlock = some q → w.heap.size + 1 ≤ q := fun q hq => (how8.lt q hq).1; have hS9 : Since w w9 := Below.grown (hS8.alloc _) hg9 (hS8.alloc _).size (fun q hq => by have := hne9 q hq; omega); have hrow9 : Row w9 v9 (P ++ [K, ct]).length ((P ++ [K, ct]).map strV) := by (have hh := row_of_own hown9; simpa using hh))
          | (go_simp; go_at_call 21; refine Calls.mono (HJ.out _ _ hrow9) ?_; rintro e w10 ⟨rfl, hb10⟩))
        all_goals
          go_wp2_with fail
          go_ret2
          exact ⟨rfl, hS9.trans hb10⟩
  case true =>
    go_enter Tryd.func12, Tryd.ntmps12
    go_wp2_with fail
    refine HM.out.mono ?_
    rintro e w1 ⟨rfl, hb⟩
    replace r0 := hb.cell r0
    replace r1 := hb.cell r1
    replace r2 := hb.cell r2
    replace r3 := hb.cell r3
    replace hA := hA.trans hb
    have hz1 : w.heap.size + 1 ≤ w1.heap.size := Nat.le_trans hsz hb.size
    clear hb HM hsz
    go_wp2_with fail
    go_region_held3 (fun w' => (w'.cell? ⟨w.heap.size, 2, none⟩ = some (.slice a L.length c) ∧ w'.cell? ⟨w.heap.size, 3, none⟩ = some (.string ⟨ct.toArray⟩)) ∧ Since w w' ∧ w.heap.size + 1 ≤ w'.heap.size)
      ((go_split_ands; (refine ⟨⟨?_, ?_⟩, ?_, ?_⟩) <;> (first | assumption | (refine Since.drew ?_; assumption) | (refine Since.cell hb ?_; assumption) | (refine Since.trans ?_ hb; assumption) | (refine Nat.le_trans ?_ hb.size; assumption) | (refine Since.alloc ?_ _; assumption) | (refine Since.cell (Since.alloc (Since.refl _) _) ?_; assumption) | (refine Nat.le_trans (by assumption) ?_; simp))))
      (first
        | (go_at_call 26; first | ((with_reducible refine (HO0.out _).mono ?_); rintro e w3 ⟨rfl, hb⟩) | ((with_reducible refine (HO1.out _).mono ?_); rintro e w3 ⟨rfl, hb⟩))
        | (go_at_call 28; ((with_reducible refine (HN.out _).mono ?_); rintro e w4 ⟨rfl, hb⟩; have hz4 : w.heap.size + 1 ≤ w4.heap.size := Nat.le_trans (by go_split_ands; assumption) hb.size)))
    go_split_ands
    have hS5 : Since w (w4.alloc (.cells #[.string ⟨#[0]⟩, .string ⟨#[1]⟩, .string ⟨N.toArray⟩] 9)) := by assumption
    have q2 : (w4.alloc (.cells #[.string ⟨#[0]⟩, .string ⟨#[1]⟩, .string ⟨N.toArray⟩] 9)).cell? ⟨w.heap.size, 2, none⟩ = some (.slice a L.length c) := by assumption
    have q3 : (w4.alloc (.cells #[.string ⟨#[0]⟩, .string ⟨#[1]⟩, .string ⟨N.toArray⟩] 9)).cell? ⟨w.heap.size, 3, none⟩ = some (.string ⟨ct.toArray⟩) := by assumption
    have how5 : (w4.alloc (.cells #[.string ⟨#[0]⟩, .string ⟨#[1]⟩, .string ⟨N.toArray⟩] 9)).ownsRow (w.heap.size + 1) 9 1 (.slice (some ⟨w4.heap.size, 0, none⟩) 3 3) ([[0], [1], N] : List (List UInt8)).length (([[0], [1], N] : List (List UInt8)).map strV) := World.ownsRow_lit w4 #[.string ⟨#[0]⟩, .string ⟨#[1]⟩, .string ⟨N.toArray⟩] 3 hz4 (by unfold maxLen; omega) rfl
    generalize w4.alloc (.cells #[.string ⟨#[0]⟩, .string ⟨#[1]⟩, .string ⟨N.toArray⟩] 9) = w5 at *
    have hT5 : Hid (T = ([[0], [1], N] : List (List UInt8)).flatten ++ ((L.drop 0).flatMap atomB ++ (K ++ ct))) := by
      show _ = _
      rw [HTD.out]; simp [chB]
    clear r0 r1 r2 r3 hA hz1 hz4 hb HN HO0 HO1 HTD
    go_wp2_with fail
    have Q3 := Lib.hid q3
    clear q2 q3
    go_loopw [5, 32] (fun v i wr => ∃ (k : Nat) (P : List (List UInt8)), k ≤ L.length ∧ i = .int .i64 (k : Int) ∧ P.length ≤ 3 + k ∧ wr.ownsRow (w.heap.size + 1) 9 1 v P.length (P.map strV) ∧ (Since w wr ∧ wr.cell? ⟨w.heap.size, 3, none⟩ = some (.string ⟨ct.toArray⟩)) ∧ Hid (T = P.flatten ++ ((L.drop k).flatMap atomB ++ (K ++ ct)))) (fun _ i _ => L.length - (intOf i).toNat)
    case atStart => exact ⟨0, [[0], [1], N], by omega, rfl, by simp, how5, ⟨hS5, Q3.out⟩, hT5.out⟩
    case round =>
      clear how5 hT5
      obtain ⟨k, P, hk, rfl, hP, how, ⟨hS, q3⟩, hres⟩ := hrel
      by_cases hlt : k < L.length
      · obtain ⟨_, b, o, he, hc, hat⟩ := (HV.out.next hS).get (by omega)
        cases he
        have hx := hat k hlt
        have hgx := HG.out _ (List.getElem_mem hlt)
        have hvx := (HVA.out _ (List.getElem_mem hlt)).1
        have hres2 : T = (P.flatten ++ atomB L[k]) ++ ((L.drop (k + 1)).flatMap atomB ++ (K ++ ct)) := by
          rw [hres.out, List.drop_eq_getElem_cons hlt, List.flatMap_cons]; simp only [List.append_assoc]
        have HR2 := Lib.hid hres2
        have hkl : (k : Int) < (L.length : Int) := by omega
        have hz5 : w.heap.size + 1 ≤ wr.heap.size := World.block_lt_of_cell? _ _ q3
        clear hat hres hres2
        generalize L[k] = x at *
        obtain ⟨x_s, x_p, x_n, ⟨x_v0, x_l0⟩, ⟨x_v1, x_l1⟩, ⟨x_v2, x_l2⟩, ⟨x_v3, x_l3⟩⟩ := x
        obtain ⟨x_c0, x_c1, x_c2, x_c3, x_c4, x_c5, x_c6, x_c7, x_c8, x_c9, x_c10⟩ := hx.all
        have hE1 := HE.out.next hS
        have HCA := Lib.hid (fun W hE => catom_yes x_s x_p x_n x_v0 x_v1 x_v2 x_v3 x_l0 x_l1 x_l2 x_l3 W (light_fits hgx) hE hgx hvx)
        generalize atomB ((x_s, x_p, x_n, (x_v0, x_l0), (x_v1, x_l1), (x_v2, x_l2), (x_v3, x_l3)) : Atm) = X at *
        clear hx hgx hvx
        go_wp2_with fail
        refine (HCA.out _ (hE1.next ((Since.refl _).alloc _))).mono ?_
        rintro e w6 ⟨rfl, hb⟩
        replace hb := Since.trans ((Since.refl _).alloc _) hb
        have how6 := own_since how hb
        have hS6 := hS.trans hb
        have q6 := hb.cell q3
        have Q6 := Lib.hid q6
        clear q6
        have hz6 : w.heap.size + 1 ≤ w6.heap.size := Nat.le_trans hz5 hb.size
        clear how hb HCA q3 x_c0 x_c1 x_c2 x_c3 x_c4 x_c5 x_c6 x_c7 x_c8 x_c9 x_c10
        go_wp2_with (at_builtin; refine wpList_append_own _ rfl (.tmp 41) (.tmp 43) 60 rfl (w.heap.size + 1) 9 i0 (.string ⟨#[]⟩) 1 16 Tryd.underlying60 HI.out.1 HI.out.2.1 HI.out.2.2.1 HI.out.2.2.2 rfl (by decide) u5 P.length (P.map strV) rfl (how6.alloc _) ⟨w6.heap.size, 0, none⟩ 1 1 [strV X] rfl rfl (cell_one_new _ _ _) (by simp [strV, Value.oneCell']) (by unfold maxLen; omega) (by omega) (by simp; omega) ?_; intro v9 w9 hown9 hg9 _; have hne9 : ∀ q, u5.ownBlock = some q → w.heap.size + 1 ≤ q := fun q hq => (how6.lt q hq).1; have hS9 : Since w w9 := Below.grown (hS6.alloc _) hg9 (hS6.alloc _).size (fun q hq => by have := hne9 q hq; omega); have q9 := cell_grown hg9 (fun e => by have := hne9 _ e.symm; omega) (Since.cell ((Since.refl _).alloc _) Q6.out))
        go_roundw
        case rel =>
          refine ⟨k + 1, P ++ [X], by omega, by go_num, by simp; omega, ?_, ⟨hS9, q9⟩, ?_⟩
          · simpa using hown9
          · show _ = _
            rw [HR2.out]; simp
        case measure => simp [intOf]; omega
      · have hT9 : T = (P ++ [K, ct]).flatten := by
          rw [hres.out, List.drop_eq_nil_of_le (by omega)]; simp
        have hPl : P.length ≤ 10003 := by omega
        have HJ : Hid (∀ W v, Row W v (P ++ [K, ct]).length ((P ++ [K, ct]).map strV) → Calls Tryd.prog 21 #[v] W fun e w' => e = .returned (.string ⟨T.toArray⟩) ∧ Since W w') := by
          intro W v hr
          have := fjoin_any v (P ++ [K, ct]) W hr (by simp; omega) (by rw [← hT9]; omega)
          rwa [← hT9] at this
        have q3d : wr.drew.cell? ⟨w.heap.size, 3, none⟩ = some (.string ⟨ct.toArray⟩) := q3
        have howd : wr.drew.ownsRow (w.heap.size + 1) 9 1 u5 P.length (P.map strV) := how
        have hSd : Since w wr.drew := hS.drew
        have hz5 : w.heap.size < wr.heap.size := World.block_lt_of_cell? _ _ q3
        clear hres hT9
        go_wp2_with fail
        go_region_law (first
          | (go_simp; go_at_call 28; (with_reducible refine (HK.out _).mono ?_); rintro e w8 ⟨rfl, hb8⟩; have q8 := hb8.cell q3d; have how8 := own_since howd hb8; have hS8 := hSd.trans hb8; have hz8 : w.heap.size < w8.heap.size := World.block_lt_of_cell? _ _ q8)
          | ((refine step_append_own rfl (.tmp 46) (.tmp 53) 60 rfl (w.heap.size + 1) 9 i0 (.string ⟨#[]⟩) 1 16 Tryd.underlying60 HI.out.1 HI.out.2.1 HI.out.2.2.1 HI.out.2.2.2 rfl (by decide) u5 P.length (P.map strV) rfl (how8.alloc _) ⟨w8.heap.size, 0, none⟩ 2 2 [strV K, strV ct] rfl rfl (cellsN _ #[strV K, strV ct] _ _ rfl) (by simp [strV, Value.oneCell']) (by unfold maxLen; omega) (by omega) (by simp; omega) ?_); intro v9 w9 hown9 hg9 _; have hne9 : ∀ q, u5.ownBlock = some q → w.heap.size + 1 ≤ q := fun q hq => (how8.lt q hq).1; have hS9 : Since w w9 := Below.grown (hS8.alloc _) hg9 (hS8.alloc _).size (fun q hq => by have := hne9 q hq; omega); have hrow9 : Row w9 v9 (P ++ [K, ct]).length ((P ++ [K, ct]).map strV) := by (have hh := row_of_own hown9; simpa using hh))
          | (go_simp; go_at_call 21; refine Calls.mono (HJ.out _ _ hrow9) ?_; rintro e w10 ⟨rfl, hb10⟩))
        all_goals
          go_wp2_with fail
          go_ret2
          exact ⟨rfl, hS9.trans hb10⟩
end Go.Proofs.YtkdeokgkjmboeaaDoor
