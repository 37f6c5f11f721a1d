/- frame.Response. What ReadResponse comes to: plain facts, no program in sight. frame.ReadResponse. -/
import Derived.Test.YtkdeokgkjmboeaaGreatDoorFrF
import Derived.Test.YtkdeokgkjmboeaaGreatDoorAppendOwn
import Derived.Deep.RegionHeld3
import Derived.Lib.SmallJoins
namespace Go.Proofs.YtkdeokgkjmboeaaGreatDoor
open Go.RowKit

theorem fnumber_any (n : Nat) (w : World) (hn : n < 4294967296) :
    Calls Tryz.prog 31 #[.int .i64 (n : Int)] w fun e w' => e = .returned (.string ⟨(numL n).toArray⟩) ∧ Since w w' := by
  have ew : IntKind.u32.wrap (n : Int) = (n : Int) := IntWalk.u32_in _ (by omega)
  have H := Lib.hid (fun W => number_any n W hn)
  generalize numL n = X at *
  go_enter Tryz.func31, Tryz.ntmps31
  go_wp2_with fail
  refine (H.out _).mono ?_
  rintro e w1 ⟨rfl, hb⟩
  go_wp2_with fail
  go_ret
  exact ⟨rfl, hb⟩
theorem own_far' {w w' : World} {base g : Nat} {e : TypeId} {size : Nat} {v : Value} {n : Nat} {xs : List Value} (h : w.ownsRow base e size v n xs) (hg : w.grownBy w' (some g)) (hb : g < base) : w'.ownsRow base e size v n xs := by
  refine h.kept hg ?_
  cases hv : v.ownBlock with
  | none => exact .inl rfl
  | some b =>
    refine .inr fun he => ?_
    injection he with he
    have := (h.lt b hv).1
    omega
theorem light_light {a : Atm} (h : lightB a = true) : Light a := by
  simp only [lightB, Bool.and_eq_true, decide_eq_true_eq, List.all_eq_true] at h
  obtain ⟨⟨h1, h2⟩, h3⟩ := h
  exact ⟨by omega, by omega, fun t ht => by have := h3 t ht; omega⟩
theorem light_fits {a : Atm} (h : lightB a = true) : FitsA a := by
  obtain ⟨h1, h2, h3⟩ := light_light h
  unfold FitsA maxLen
  exact ⟨by omega, by omega, fun t ht => by have := h3 t ht; omega⟩
def chB (b : Bool) : UInt8 := if b then 1 else 0
/-- A response's bytes. -/
def rsB (x : Rsp) : List UInt8 := if x.1 ≠ 0 then [UInt8.ofNat x.1.toNat] else 0 :: chB x.2.1 :: (numL x.2.2.1.length ++ (x.2.2.1.flatMap atomB ++ textB x.2.2.2))
theorem infoStrF : (Tryz.prog.info? 9).map (fun i => (i.zero, i.size, i.bytes)) = some (some (.string ⟨#[]⟩), 1, 16) := by kernel_rfl
theorem row_of_lit (W : World) (t : TypeId) (L : List (List UInt8)) (g n : Nat) (hg : W.heap.size = g) (hn : L.length = n) : Row (W.alloc (.cells (L.map strV).toArray t)) (.slice (some ⟨g, 0, none⟩) n n) L.length (L.map strV) := by
  subst hg; subst hn
  refine .inr ⟨W.heap.size, 0, L.length, rfl, Nat.le_refl _, fun j hj => ?_⟩
  rw [World.cell?_alloc_new, Nat.zero_add]
  simpa using List.getElem?_eq_getElem hj
theorem odd_valid {L : List Atm} (h : (L.any oddB) = false) : ∀ x ∈ L, checkA x = 0 ∧ groundA x = true := by
  intro x hx
  have h1 := List.any_eq_false.1 h x hx
  simp only [oddB, Bool.or_eq_true, bne_iff_ne, ne_eq, Bool.not_eq_true', not_or, Bool.not_eq_false] at h1
  exact ⟨Decidable.byContradiction h1.1, h1.2⟩
theorem mayRs_cases {x : Rsp} (h : mayRs x = true) : (x.1 ≠ 0 ∧ 0 < x.1 ∧ x.1 ≤ 16 ∧ x.2.1 = false ∧ x.2.2.1 = [] ∧ x.2.2.2 = []) ∨ (x.1 = 0 ∧ isF x.2.2.1 = true ∧ (∀ a ∈ x.2.2.1, checkA a = 0 ∧ groundA a = true) ∧ (moreB x && x.2.1) = false) := by
  unfold mayRs at h
  split at h
  · cases h
  · rename_i hc
    split at h
    · rename_i h0
      rw [Bool.and_eq_true] at h
      obtain ⟨h1, h2⟩ := h
      have h3 : moreB x = false := by simpa using h1
      unfold moreB at h3
      rw [Bool.or_eq_false_iff, decide_eq_false_iff_not] at h3
      refine .inl ⟨h0, by omega, by omega, by simpa using h2, List.eq_nil_of_length_eq_zero (by omega), by simpa using h3.2⟩
    · rename_i h0
      split at h
      · cases h
      · rename_i hm
        rw [Bool.and_eq_true] at h
        exact .inr ⟨by simpa using h0, h.1, odd_valid (by simpa using h.2), by simpa using hm⟩
set_option maxHeartbeats 4000000 in
set_option maxRecDepth 100000 in
theorem response_no (code : Int) (ch : Bool) (v : Value) (L : List Atm) (ct : List UInt8) (w : World) (hE : Env w) (hv : AtmRow w v L) (hl : ∀ x ∈ L, FitsA x) (hg : ∀ x ∈ L, Light x) (hm : L.length ≤ 1000000) (hr : mayRs (code, ch, L, ct) = false) :
    Calls Tryz.prog 11 #[.agg #[.int .i64 code, .bool ch, v, .string ⟨ct.toArray⟩]] w fun e w' => e = .returned (.tuple #[.string ⟨#[]⟩, .int .i64 2]) ∧ Since w w' := by
  obtain ⟨a, c, rfl⟩ := hv.form
  have hA : Since w (w.alloc (.cells #[.int .i64 code, .bool ch, .slice a L.length c, .string ⟨ct.toArray⟩] 32)) := (Since.refl _).alloc _
  have HM := Lib.hid (mayRs_any code ch (.slice a L.length c) L ct _ (hE.next hA) (hv.next hA) hl hg hm)
  rw [hr] at HM
  clear hr hv hE hl hg
  go_enter Tryz.func11, Tryz.ntmps11
  go_wp2_with fail
  refine HM.out.mono ?_
  rintro e w1 ⟨rfl, hb⟩
  go_wp2_with fail
  go_ret2
  exact ⟨rfl, hA.trans hb⟩
set_option maxHeartbeats 4000000 in
set_option maxRecDepth 100000 in
theorem response_err (code : Nat) (a : Option Addr) (c : Nat) (w : World) (hE : Env w) (h0 : 0 < code) (h16 : code ≤ 16) (hr : mayRs ((code : Int), false, [], []) = true) :
    Calls Tryz.prog 11 #[.agg #[.int .i64 (code : Int), .bool false, .slice a 0 c, .string ⟨#[]⟩]] w fun e w' => e = .returned (.tuple #[.string ⟨#[UInt8.ofNat code]⟩, .int .i64 0]) ∧ Since w w' := by
  have hv : AtmRow w (.slice a 0 c) [] := ⟨a, c, rfl, fun h => absurd h (Nat.lt_irrefl 0)⟩
  have hA : Since w (w.alloc (.cells #[.int .i64 (code : Int), .bool false, .slice a 0 c, .string ⟨#[]⟩] 32)) := (Since.refl _).alloc _
  have HM := Lib.hid (mayRs_any (code : Int) false (.slice a 0 c) [] [] _ (hE.next hA) (hv.next hA) (by simp) (by simp) (by simp))
  rw [hr] at HM
  have r0 : (w.alloc (.cells #[.int .i64 (code : Int), .bool false, .slice a 0 c, .string ⟨#[]⟩] 32)).cell? ⟨w.heap.size, 0, none⟩ = some (.int .i64 (code : Int)) := by rw [World.cell?_alloc_new]; rfl
  have HO := Lib.hid (fun W => one_any code W (by omega))
  have hne : ((code : Int) != 0) = true := by simp; omega
  clear hr hv hE
  go_enter Tryz.func11, Tryz.ntmps11
  go_wp2_with fail
  refine HM.out.mono ?_
  rintro e w1 ⟨rfl, hb⟩
  replace r0 := hb.cell r0
  go_wp2_with fail
  refine (HO.out _).mono ?_
  rintro e w2 ⟨rfl, hb2⟩
  go_wp2_with fail
  go_ret2
  exact ⟨rfl, (hA.trans hb).trans hb2⟩
/-- The answers' response. -/
theorem cellsN (W : World) (cs : Array Value) (t : TypeId) (g : Nat) (hg : W.heap.size = g) : ∀ j u, cs.toList[j]? = some u → (W.alloc (.cells cs t)).cell? ((⟨g, 0, none⟩ : Addr).add j) = some u := by
  subst hg
  intro j u hu
  have hadd : (⟨W.heap.size, 0, none⟩ : Addr).add j = ⟨W.heap.size, j, none⟩ := by unfold Addr.add; split <;> simp_all
  rw [hadd, World.cell?_alloc_new]
  simpa using hu
theorem cell_grown {W W' : World} {row : Option Nat} (hg : W.grownBy W' row) {b j : Nat} {u : Value} (hne : some b ≠ row) (hc : W.cell? ⟨b, j, none⟩ = some u) : W'.cell? ⟨b, j, none⟩ = some u :=
  (World.cell?_of_block (hg.block b (World.block_lt_of_cell? W _ hc) hne)).trans hc
theorem own_since {w w' : World} {base : Nat} {e : TypeId} {size : Nat} {v : Value} {n : Nat} {xs : List Value} (h : w.ownsRow (base + 1) e size v n xs) (hs : Since w w') : w'.ownsRow (base + 1) e size v n xs :=
  own_far' h (gsince (World.grownBy.refl _ (some 0)) hs) (Nat.succ_pos _)
set_option maxHeartbeats 8000000 in
set_option maxRecDepth 100000 in
theorem response_yes (ch : Bool) (v : Value) (L : List Atm) (ct : List UInt8) (w : World) (hE : Env w) (hv : AtmRow w v L) (hg : ∀ x ∈ L, lightB x = true) (hm : L.length ≤ 10000) (hr : mayRs (0, ch, L, ct) = true) (hT : (rsB (0, ch, L, ct)).length ≤ 500000) :
    Calls Tryz.prog 11 #[.agg #[.int .i64 0, .bool ch, v, .string ⟨ct.toArray⟩]] w fun e w' => e = .returned (.tuple #[.string ⟨(rsB (0, ch, L, ct)).toArray⟩, .int .i64 0]) ∧ Since w w' := by
  obtain ⟨a, c, rfl⟩ := hv.form
  have hfit : ∀ x ∈ L, FitsA x := fun x hx => light_fits (hg x hx)
  have hli : ∀ x ∈ L, Light x := fun x hx => light_light (hg x hx)
  have hval : ∀ x ∈ L, checkA x = 0 ∧ groundA x = true := by
    rcases mayRs_cases hr with ⟨h, _⟩ | ⟨_, _, h, _⟩
    · exact absurd rfl h
    · exact h
  have hA : Since w (w.alloc (.cells #[.int .i64 0, .bool ch, .slice a L.length c, .string ⟨ct.toArray⟩] 32)) := (Since.refl _).alloc _
  have HM := Lib.hid (mayRs_any 0 ch (.slice a L.length c) L ct _ (hE.next hA) (hv.next hA) hfit hli (by omega))
  rw [hr] at HM
  have hTd : rsB (0, ch, L, ct) = [0] ++ ([chB ch] ++ (numL L.length ++ (L.flatMap atomB ++ (numL ct.length ++ ct)))) := rfl
  obtain ⟨T, hTT⟩ : ∃ T, Hid (T = rsB (0, ch, L, ct)) := ⟨_, rfl⟩
  rw [← hTT.out] at hT hTd ⊢
  obtain ⟨N, hN⟩ : ∃ N, Hid (N = numL L.length) := ⟨_, rfl⟩
  obtain ⟨K, hK⟩ : ∃ K, Hid (K = numL ct.length) := ⟨_, rfl⟩
  have hctl : ct.length ≤ 500000 := by
    have := congrArg List.length hTd
    simp only [List.length_append] at this
    omega
  rw [← hN.out, ← hK.out] at hTd
  have HTD := Lib.hid hTd
  have HO0 : Hid (∀ W, Calls Tryz.prog 22 #[.int .i64 0] W fun e w' => e = .returned (.string ⟨#[0]⟩) ∧ Since W w') := fun W => one_any 0 W (by omega)
  have HO1 : Hid (∀ W, Calls Tryz.prog 22 #[.int .i64 1] W fun e w' => e = .returned (.string ⟨#[1]⟩) ∧ Since W w') := fun W => one_any 1 W (by omega)
  have HN := Lib.hid (fun W => fnumber_any L.length W (by omega))
  have HK := Lib.hid (fun W => fnumber_any ct.length W (by omega))
  rw [← hN.out] at HN
  rw [← hK.out] at HK
  have r0 : (w.alloc (.cells #[.int .i64 0, .bool ch, .slice a L.length c, .string ⟨ct.toArray⟩] 32)).cell? ⟨w.heap.size, 0, none⟩ = some (.int .i64 0) := by rw [World.cell?_alloc_new]; rfl
  have r1 : (w.alloc (.cells #[.int .i64 0, .bool ch, .slice a L.length c, .string ⟨ct.toArray⟩] 32)).cell? ⟨w.heap.size, 1, none⟩ = some (.bool ch) := by rw [World.cell?_alloc_new]; rfl
  have r2 : (w.alloc (.cells #[.int .i64 0, .bool ch, .slice a L.length c, .string ⟨ct.toArray⟩] 32)).cell? ⟨w.heap.size, 2, none⟩ = some (.slice a L.length c) := by rw [World.cell?_alloc_new]; rfl
  have r3 : (w.alloc (.cells #[.int .i64 0, .bool ch, .slice a L.length c, .string ⟨ct.toArray⟩] 32)).cell? ⟨w.heap.size, 3, none⟩ = some (.string ⟨ct.toArray⟩) := by rw [World.cell?_alloc_new]; rfl
  have hsz : w.heap.size + 1 ≤ (w.alloc (.cells #[.int .i64 0, .bool ch, .slice a L.length c, .string ⟨ct.toArray⟩] 32)).heap.size := by simp
  have HE := Lib.hid hE
  have HV := Lib.hid hv
  have HG := Lib.hid hg
  have HVA := Lib.hid hval
  obtain ⟨i0, hi0, hz0, hz1, hz2⟩ := info_parts infoStrF
  have HI := Lib.hid (And.intro hi0 (And.intro hz0 (And.intro hz1 hz2)))
  clear hi0 hz0 hz1 hz2 hr hv hE hg hfit hli hval hTT hN hK hTd
  cases ch
  case false =>
    go_enter Tryz.func11, Tryz.ntmps11
    go_wp2_with fail
    refine HM.out.mono ?_
    rintro e w1 ⟨rfl, hb⟩
    replace r0 := hb.cell r0
    replace r1 := hb.cell r1
    replace r2 := hb.cell r2
    replace r3 := hb.cell r3
    replace hA := hA.trans hb
    have hz1 : w.heap.size + 1 ≤ w1.heap.size := Nat.le_trans hsz hb.size
    clear hb HM hsz
    go_wp2_with fail
    go_region_held3 (fun w' => (w'.cell? ⟨w.heap.size, 2, none⟩ = some (.slice a L.length c) ∧ w'.cell? ⟨w.heap.size, 3, none⟩ = some (.string ⟨ct.toArray⟩)) ∧ Since w w' ∧ w.heap.size + 1 ≤ w'.heap.size)
      ((go_split_ands; (refine ⟨⟨?_, ?_⟩, ?_, ?_⟩) <;> (first | assumption | (refine Since.drew ?_; assumption) | (refine Since.cell hb ?_; assumption) | (refine Since.trans ?_ hb; assumption) | (refine Nat.le_trans ?_ hb.size; assumption) | (refine Since.alloc ?_ _; assumption) | (refine Since.cell (Since.alloc (Since.refl _) _) ?_; assumption) | (refine Nat.le_trans (by assumption) ?_; simp))))
      (first
        | (go_at_call 22; first | ((with_reducible refine (HO0.out _).mono ?_); rintro e w3 ⟨rfl, hb⟩) | ((with_reducible refine (HO1.out _).mono ?_); rintro e w3 ⟨rfl, hb⟩))
        | (go_at_call 31; ((with_reducible refine (HN.out _).mono ?_); rintro e w4 ⟨rfl, hb⟩; have hz4 : w.heap.size + 1 ≤ w4.heap.size := Nat.le_trans (by go_split_ands; assumption) hb.size)))
    go_split_ands
    have hS5 : Since w (w4.alloc (.cells #[.string ⟨#[0]⟩, .string ⟨#[0]⟩, .string ⟨N.toArray⟩] 9)) := by assumption
    have q2 : (w4.alloc (.cells #[.string ⟨#[0]⟩, .string ⟨#[0]⟩, .string ⟨N.toArray⟩] 9)).cell? ⟨w.heap.size, 2, none⟩ = some (.slice a L.length c) := by assumption
    have q3 : (w4.alloc (.cells #[.string ⟨#[0]⟩, .string ⟨#[0]⟩, .string ⟨N.toArray⟩] 9)).cell? ⟨w.heap.size, 3, none⟩ = some (.string ⟨ct.toArray⟩) := by assumption
    have how5 : (w4.alloc (.cells #[.string ⟨#[0]⟩, .string ⟨#[0]⟩, .string ⟨N.toArray⟩] 9)).ownsRow (w.heap.size + 1) 9 1 (.slice (some ⟨w4.heap.size, 0, none⟩) 3 3) ([[0], [0], N] : List (List UInt8)).length (([[0], [0], N] : List (List UInt8)).map strV) := World.ownsRow_lit w4 #[.string ⟨#[0]⟩, .string ⟨#[0]⟩, .string ⟨N.toArray⟩] 3 hz4 (by unfold maxLen; omega) rfl
    generalize w4.alloc (.cells #[.string ⟨#[0]⟩, .string ⟨#[0]⟩, .string ⟨N.toArray⟩] 9) = w5 at *
    have hT5 : Hid (T = ([[0], [0], N] : List (List UInt8)).flatten ++ ((L.drop 0).flatMap atomB ++ (K ++ ct))) := by
      show _ = _
      rw [HTD.out]; simp [chB]
    clear r0 r1 r2 r3 hA hz1 hz4 hb HN HO0 HO1 HTD
    go_wp2_with fail
    have Q3 := Lib.hid q3
    clear q2 q3
    go_loopw [5, 32] (fun v i wr => ∃ (k : Nat) (P : List (List UInt8)), k ≤ L.length ∧ i = .int .i64 (k : Int) ∧ P.length ≤ 3 + k ∧ wr.ownsRow (w.heap.size + 1) 9 1 v P.length (P.map strV) ∧ (Since w wr ∧ wr.cell? ⟨w.heap.size, 3, none⟩ = some (.string ⟨ct.toArray⟩)) ∧ Hid (T = P.flatten ++ ((L.drop k).flatMap atomB ++ (K ++ ct)))) (fun _ i _ => L.length - (intOf i).toNat)
    case atStart => exact ⟨0, [[0], [0], N], by omega, rfl, by simp, how5, ⟨hS5, Q3.out⟩, hT5.out⟩
    case round =>
      clear how5 hT5
      obtain ⟨k, P, hk, rfl, hP, how, ⟨hS, q3⟩, hres⟩ := hrel
      by_cases hlt : k < L.length
      · obtain ⟨_, b, o, he, hc, hat⟩ := (HV.out.next hS).get (by omega)
        cases he
        have hx := hat k hlt
        have hgx := HG.out _ (List.getElem_mem hlt)
        have hvx := (HVA.out _ (List.getElem_mem hlt)).1
        have hres2 : T = (P.flatten ++ atomB L[k]) ++ ((L.drop (k + 1)).flatMap atomB ++ (K ++ ct)) := by
          rw [hres.out, List.drop_eq_getElem_cons hlt, List.flatMap_cons]; simp only [List.append_assoc]
        have HR2 := Lib.hid hres2
        have hkl : (k : Int) < (L.length : Int) := by omega
        have hz5 : w.heap.size + 1 ≤ wr.heap.size := World.block_lt_of_cell? _ _ q3
        clear hat hres hres2
        generalize L[k] = x at *
        obtain ⟨x_s, x_p, x_n, ⟨x_v0, x_l0⟩, ⟨x_v1, x_l1⟩, ⟨x_v2, x_l2⟩, ⟨x_v3, x_l3⟩⟩ := x
        obtain ⟨x_c0, x_c1, x_c2, x_c3, x_c4, x_c5, x_c6, x_c7, x_c8, x_c9, x_c10⟩ := hx.all
        have hE1 := HE.out.next hS
        have HCA := Lib.hid (fun W hE => catom_yes x_s x_p x_n x_v0 x_v1 x_v2 x_v3 x_l0 x_l1 x_l2 x_l3 W (light_fits hgx) hE hgx hvx)
        generalize atomB ((x_s, x_p, x_n, (x_v0, x_l0), (x_v1, x_l1), (x_v2, x_l2), (x_v3, x_l3)) : Atm) = X at *
        clear hx hgx hvx
        go_wp2_with fail
        refine (HCA.out _ (hE1.next ((Since.refl _).alloc _))).mono ?_
        rintro e w6 ⟨rfl, hb⟩
        replace hb := Since.trans ((Since.refl _).alloc _) hb
        have how6 := own_since how hb
        have hS6 := hS.trans hb
        have q6 := hb.cell q3
        have Q6 := Lib.hid q6
        clear q6
        have hz6 : w.heap.size + 1 ≤ w6.heap.size := Nat.le_trans hz5 hb.size
        clear how hb HCA q3 x_c0 x_c1 x_c2 x_c3 x_c4 x_c5 x_c6 x_c7 x_c8 x_c9 x_c10
        go_wp2_with (at_builtin; refine wpList_append_own _ rfl (.tmp 41) (.tmp 43) 61 rfl (w.heap.size + 1) 9 i0 (.string ⟨#[]⟩) 1 16 Tryz.underlying61 HI.out.1 HI.out.2.1 HI.out.2.2.1 HI.out.2.2.2 rfl (by decide) u5 P.length (P.map strV) rfl (how6.alloc _) ⟨w6.heap.size, 0, none⟩ 1 1 [strV X] rfl rfl (cell_one_new _ _ _) (by simp [strV, Value.oneCell']) (by unfold maxLen; omega) (by omega) (by simp; omega) ?_; intro v9 w9 hown9 hg9 _; have hne9 : ∀ q, u5.ownBlock = some q → w.heap.size + 1 ≤ q := fun q hq => (how6.lt q hq).1; have hS9 : Since w w9 := Below.grown (hS6.alloc _) hg9 (hS6.alloc _).size (fun q hq => by have := hne9 q hq; omega); have q9 := cell_grown hg9 (fun e => by have := hne9 _ e.symm; omega) (Since.cell ((Since.refl _).alloc _) Q6.out))
        go_roundw
        case rel =>
          refine ⟨k + 1, P ++ [X], by omega, by go_num, by simp; omega, ?_, ⟨hS9, q9⟩, ?_⟩
          · simpa using hown9
          · show _ = _
            rw [HR2.out]; simp
        case measure => simp [intOf]; omega
      · have hT9 : T = (P ++ [K, ct]).flatten := by
          rw [hres.out, List.drop_eq_nil_of_le (by omega)]; simp
        have hPl : P.length ≤ 10003 := by omega
        have HJ : Hid (∀ W v, Row W v (P ++ [K, ct]).length ((P ++ [K, ct]).map strV) → Calls Tryz.prog 19 #[v] W fun e w' => e = .returned (.string ⟨T.toArray⟩) ∧ Since W w') := by
          intro W v hr
          have := fjoin_any v (P ++ [K, ct]) W hr (by simp; omega) (by rw [← hT9]; omega)
          rwa [← hT9] at this
        have q3d : wr.drew.cell? ⟨w.heap.size, 3, none⟩ = some (.string ⟨ct.toArray⟩) := q3
        have howd : wr.drew.ownsRow (w.heap.size + 1) 9 1 u5 P.length (P.map strV) := how
        have hSd : Since w wr.drew := hS.drew
        have hz5 : w.heap.size < wr.heap.size := World.block_lt_of_cell? _ _ q3
        clear hres hT9
        go_wp2_with fail
        go_region_law (first
          | (go_simp; go_at_call 31; (with_reducible refine (HK.out _).mono ?_); rintro e w8 ⟨rfl, hb8⟩; have q8 := hb8.cell q3d; have how8 := own_since howd hb8; have hS8 := hSd.trans hb8; have hz8 : w.heap.size < w8.heap.size := World.block_lt_of_cell? _ _ q8)
          | ((refine step_append_own rfl (.tmp 46) (.tmp 53) 61 rfl (w.heap.size + 1) 9 i0 (.string ⟨#[]⟩) 1 16 Tryz.underlying61 HI.out.1 HI.out.2.1 HI.out.2.2.1 HI.out.2.2.2 rfl (by decide) u5 P.length (P.map strV) rfl (how8.alloc _) ⟨w8.heap.size, 0, none⟩ 2 2 [strV K, strV ct] rfl rfl (cellsN _ #[strV K, strV ct] _ _ rfl) (by simp [strV, Value.oneCell']) (by unfold maxLen; omega) (by omega) (by simp; omega) ?_); intro v9 w9 hown9 hg9 _; have hne9 : ∀ q, u5.ownBlock = some q → w.heap.size + 1 ≤ q := fun q hq => (how8.lt q hq).1; have hS9 : Since w w9 := Below.grown (hS8.alloc _) hg9 (hS8.alloc _).size (fun q hq => by have := hne9 q hq; omega); have hrow9 : Row w9 v9 (P ++ [K, ct]).length ((P ++ [K, ct]).map strV) := by (have hh := row_of_own hown9; simpa using hh))
          | (go_simp; go_at_call 19; refine Calls.mono (HJ.out _ _ hrow9) ?_; rintro e w10 ⟨rfl, hb10⟩))
        all_goals
          go_wp2_with fail
          go_ret2
          exact ⟨rfl, hS9.trans hb10⟩
  case true =>
    go_enter Tryz.func11, Tryz.ntmps11
    go_wp2_with fail
    refine HM.out.mono ?_
    rintro e w1 ⟨rfl, hb⟩
    replace r0 := hb.cell r0
    replace r1 := hb.cell r1
    replace r2 := hb.cell r2
    replace r3 := hb.cell r3
    replace hA := hA.trans hb
    have hz1 : w.heap.size + 1 ≤ w1.heap.size := Nat.le_trans hsz hb.size
    clear hb HM hsz
    go_wp2_with fail
    go_region_held3 (fun w' => (w'.cell? ⟨w.heap.size, 2, none⟩ = some (.slice a L.length c) ∧ w'.cell? ⟨w.heap.size, 3, none⟩ = some (.string ⟨ct.toArray⟩)) ∧ Since w w' ∧ w.heap.size + 1 ≤ w'.heap.size)
      ((go_split_ands; (refine ⟨⟨?_, ?_⟩, ?_, ?_⟩) <;> (first | assumption | (refine Since.drew ?_; assumption) | (refine Since.cell hb ?_; assumption) | (refine Since.trans ?_ hb; assumption) | (refine Nat.le_trans ?_ hb.size; assumption) | (refine Since.alloc ?_ _; assumption) | (refine Since.cell (Since.alloc (Since.refl _) _) ?_; assumption) | (refine Nat.le_trans (by assumption) ?_; simp))))
      (first
        | (go_at_call 22; first | ((with_reducible refine (HO0.out _).mono ?_); rintro e w3 ⟨rfl, hb⟩) | ((with_reducible refine (HO1.out _).mono ?_); rintro e w3 ⟨rfl, hb⟩))
        | (go_at_call 31; ((with_reducible refine (HN.out _).mono ?_); rintro e w4 ⟨rfl, hb⟩; have hz4 : w.heap.size + 1 ≤ w4.heap.size := Nat.le_trans (by go_split_ands; assumption) hb.size)))
    go_split_ands
    have hS5 : Since w (w4.alloc (.cells #[.string ⟨#[0]⟩, .string ⟨#[1]⟩, .string ⟨N.toArray⟩] 9)) := by assumption
    have q2 : (w4.alloc (.cells #[.string ⟨#[0]⟩, .string ⟨#[1]⟩, .string ⟨N.toArray⟩] 9)).cell? ⟨w.heap.size, 2, none⟩ = some (.slice a L.length c) := by assumption
    have q3 : (w4.alloc (.cells #[.string ⟨#[0]⟩, .string ⟨#[1]⟩, .string ⟨N.toArray⟩] 9)).cell? ⟨w.heap.size, 3, none⟩ = some (.string ⟨ct.toArray⟩) := by assumption
    have how5 : (w4.alloc (.cells #[.string ⟨#[0]⟩, .string ⟨#[1]⟩, .string ⟨N.toArray⟩] 9)).ownsRow (w.heap.size + 1) 9 1 (.slice (some ⟨w4.heap.size, 0, none⟩) 3 3) ([[0], [1], N] : List (List UInt8)).length (([[0], [1], N] : List (List UInt8)).map strV) := World.ownsRow_lit w4 #[.string ⟨#[0]⟩, .string ⟨#[1]⟩, .string ⟨N.toArray⟩] 3 hz4 (by unfold maxLen; omega) rfl
    generalize w4.alloc (.cells #[.string ⟨#[0]⟩, .string ⟨#[1]⟩, .string ⟨N.toArray⟩] 9) = w5 at *
    have hT5 : Hid (T = ([[0], [1], N] : List (List UInt8)).flatten ++ ((L.drop 0).flatMap atomB ++ (K ++ ct))) := by
      show _ = _
      rw [HTD.out]; simp [chB]
    clear r0 r1 r2 r3 hA hz1 hz4 hb HN HO0 HO1 HTD
    go_wp2_with fail
    have Q3 := Lib.hid q3
    clear q2 q3
    go_loopw [5, 32] (fun v i wr => ∃ (k : Nat) (P : List (List UInt8)), k ≤ L.length ∧ i = .int .i64 (k : Int) ∧ P.length ≤ 3 + k ∧ wr.ownsRow (w.heap.size + 1) 9 1 v P.length (P.map strV) ∧ (Since w wr ∧ wr.cell? ⟨w.heap.size, 3, none⟩ = some (.string ⟨ct.toArray⟩)) ∧ Hid (T = P.flatten ++ ((L.drop k).flatMap atomB ++ (K ++ ct)))) (fun _ i _ => L.length - (intOf i).toNat)
    case atStart => exact ⟨0, [[0], [1], N], by omega, rfl, by simp, how5, ⟨hS5, Q3.out⟩, hT5.out⟩
    case round =>
      clear how5 hT5
      obtain ⟨k, P, hk, rfl, hP, how, ⟨hS, q3⟩, hres⟩ := hrel
      by_cases hlt : k < L.length
      · obtain ⟨_, b, o, he, hc, hat⟩ := (HV.out.next hS).get (by omega)
        cases he
        have hx := hat k hlt
        have hgx := HG.out _ (List.getElem_mem hlt)
        have hvx := (HVA.out _ (List.getElem_mem hlt)).1
        have hres2 : T = (P.flatten ++ atomB L[k]) ++ ((L.drop (k + 1)).flatMap atomB ++ (K ++ ct)) := by
          rw [hres.out, List.drop_eq_getElem_cons hlt, List.flatMap_cons]; simp only [List.append_assoc]
        have HR2 := Lib.hid hres2
        have hkl : (k : Int) < (L.length : Int) := by omega
        have hz5 : w.heap.size + 1 ≤ wr.heap.size := World.block_lt_of_cell? _ _ q3
        clear hat hres hres2
        generalize L[k] = x at *
        obtain ⟨x_s, x_p, x_n, ⟨x_v0, x_l0⟩, ⟨x_v1, x_l1⟩, ⟨x_v2, x_l2⟩, ⟨x_v3, x_l3⟩⟩ := x
        obtain ⟨x_c0, x_c1, x_c2, x_c3, x_c4, x_c5, x_c6, x_c7, x_c8, x_c9, x_c10⟩ := hx.all
        have hE1 := HE.out.next hS
        have HCA := Lib.hid (fun W hE => catom_yes x_s x_p x_n x_v0 x_v1 x_v2 x_v3 x_l0 x_l1 x_l2 x_l3 W (light_fits hgx) hE hgx hvx)
        generalize atomB ((x_s, x_p, x_n, (x_v0, x_l0), (x_v1, x_l1), (x_v2, x_l2), (x_v3, x_l3)) : Atm) = X at *
        clear hx hgx hvx
        go_wp2_with fail
        refine (HCA.out _ (hE1.next ((Since.refl _).alloc _))).mono ?_
        rintro e w6 ⟨rfl, hb⟩
        replace hb := Since.trans ((Since.refl _).alloc _) hb
        have how6 := own_since how hb
        have hS6 := hS.trans hb
        have q6 := hb.cell q3
        have Q6 := Lib.hid q6
        clear q6
        have hz6 : w.heap.size + 1 ≤ w6.heap.size := Nat.le_trans hz5 hb.size
        clear how hb HCA q3 x_c0 x_c1 x_c2 x_c3 x_c4 x_c5 x_c6 x_c7 x_c8 x_c9 x_c10
        go_wp2_with (at_builtin; refine wpList_append_own _ rfl (.tmp 41) (.tmp 43) 61 rfl (w.heap.size + 1) 9 i0 (.string ⟨#[]⟩) 1 16 Tryz.underlying61 HI.out.1 HI.out.2.1 HI.out.2.2.1 HI.out.2.2.2 rfl (by decide) u5 P.length (P.map strV) rfl (how6.alloc _) ⟨w6.heap.size, 0, none⟩ 1 1 [strV X] rfl rfl (cell_one_new _ _ _) (by simp [strV, Value.oneCell']) (by unfold maxLen; omega) (by omega) (by simp; omega) ?_; intro v9 w9 hown9 hg9 _; have hne9 : ∀ q, u5.ownBlock = some q → w.heap.size + 1 ≤ q := fun q hq => (how6.lt q hq).1; have hS9 : Since w w9 := Below.grown (hS6.alloc _) hg9 (hS6.alloc _).size (fun q hq => by have := hne9 q hq; omega); have q9 := cell_grown hg9 (fun e => by have := hne9 _ e.symm; omega) (Since.cell ((Since.refl _).alloc _) Q6.out))
        go_roundw
        case rel =>
          refine ⟨k + 1, P ++ [X], by omega, by go_num, by simp; omega, ?_, ⟨hS9, q9⟩, ?_⟩
          · simpa using hown9
          · show _ = _
            rw [HR2.out]; simp
        case measure => simp [intOf]; omega
      · have hT9 : T = (P ++ [K, ct]).flatten := by
          rw [hres.out, List.drop_eq_nil_of_le (by omega)]; simp
        have hPl : P.length ≤ 10003 := by omega
        have HJ : Hid (∀ W v, Row W v (P ++ [K, ct]).length ((P ++ [K, ct]).map strV) → Calls Tryz.prog 19 #[v] W fun e w' => e = .returned (.string ⟨T.toArray⟩) ∧ Since W w') := by
          intro W v hr
          have := fjoin_any v (P ++ [K, ct]) W hr (by simp; omega) (by rw [← hT9]; omega)
          rwa [← hT9] at this
        have q3d : wr.drew.cell? ⟨w.heap.size, 3, none⟩ = some (.string ⟨ct.toArray⟩) := q3
        have howd : wr.drew.ownsRow (w.heap.size + 1) 9 1 u5 P.length (P.map strV) := how
        have hSd : Since w wr.drew := hS.drew
        have hz5 : w.heap.size < wr.heap.size := World.block_lt_of_cell? _ _ q3
        clear hres hT9
        go_wp2_with fail
        go_region_law (first
          | (go_simp; go_at_call 31; (with_reducible refine (HK.out _).mono ?_); rintro e w8 ⟨rfl, hb8⟩; have q8 := hb8.cell q3d; have how8 := own_since howd hb8; have hS8 := hSd.trans hb8; have hz8 : w.heap.size < w8.heap.size := World.block_lt_of_cell? _ _ q8)
          | ((refine step_append_own rfl (.tmp 46) (.tmp 53) 61 rfl (w.heap.size + 1) 9 i0 (.string ⟨#[]⟩) 1 16 Tryz.underlying61 HI.out.1 HI.out.2.1 HI.out.2.2.1 HI.out.2.2.2 rfl (by decide) u5 P.length (P.map strV) rfl (how8.alloc _) ⟨w8.heap.size, 0, none⟩ 2 2 [strV K, strV ct] rfl rfl (cellsN _ #[strV K, strV ct] _ _ rfl) (by simp [strV, Value.oneCell']) (by unfold maxLen; omega) (by omega) (by simp; omega) ?_); intro v9 w9 hown9 hg9 _; have hne9 : ∀ q, u5.ownBlock = some q → w.heap.size + 1 ≤ q := fun q hq => (how8.lt q hq).1; have hS9 : Since w w9 := Below.grown (hS8.alloc _) hg9 (hS8.alloc _).size (fun q hq => by have := hne9 q hq; omega); have hrow9 : Row w9 v9 (P ++ [K, ct]).length ((P ++ [K, ct]).map strV) := by (have hh := row_of_own hown9; simpa using hh))
          | (go_simp; go_at_call 19; refine Calls.mono (HJ.out _ _ hrow9) ?_; rintro e w10 ⟨rfl, hb10⟩))
        all_goals
          go_wp2_with fail
          go_ret2
          exact ⟨rfl, hS9.trans hb10⟩
end Go.Proofs.YtkdeokgkjmboeaaGreatDoor

namespace Go.Proofs.YtkdeokgkjmboeaaGreatDoor
open Go.RowKit

/-- The answers' loop. -/
def atomsF : Nat → List UInt8 → Bool → List Atm × List UInt8 × Bool
  | 0, s, b => ([], s, b)
  | m + 1, s, b => if b then ([], s, true) else
    ((atomF s false).1 :: (atomsF m (atomF s false).2.1 (atomF s false).2.2).1, (atomsF m (atomF s false).2.1 (atomF s false).2.2).2)
theorem atomsF_bad (m : Nat) (s : List UInt8) : atomsF m s true = ([], s, true) := by cases m <;> rfl
theorem atomsF_succ (m : Nat) (s : List UInt8) : atomsF (m + 1) s false = ((atomF s false).1 :: (atomsF m (atomF s false).2.1 (atomF s false).2.2).1, (atomsF m (atomF s false).2.1 (atomF s false).2.2).2) := by rw [atomsF, if_neg (by simp)]
theorem atomF_le (s : List UInt8) (b : Bool) : (atomF s b).2.1.length ≤ s.length := by
  unfold atomF
  split
  · exact Nat.le_refl _
  · split
    · exact Nat.le_refl _
    · simp only [List.length_drop]; omega
theorem atomB_pos (a : Atm) : 1 ≤ (atomB a).length := by
  have := num_pos a.1.length
  unfold atomB textB
  simp only [List.length_append]
  omega
theorem atomF_less {s : List UInt8} (h : (atomF s false).2.2 = false) : (atomF s false).2.1.length + 1 ≤ s.length := by
  have he : atomF s false = ((atomF s false).1, (atomF s false).2.1, false) := Prod.ext rfl (Prod.ext rfl h)
  have h2 := congrArg List.length (atomF_some he).2
  rw [List.length_append] at h2
  have := atomB_pos (atomF s false).1
  omega
theorem atomF_light (s : List UInt8) (b : Bool) : lightB (atomF s b).1 = true := by
  have hz : lightB zeroAtm = true := by decide
  unfold atomF
  split
  · exact hz
  · split
    · exact hz
    · rename_i h
      exact valid_light (atomS_valid (by simpa using h))
theorem atomsF_enc : ∀ (L : List Atm), (∀ a ∈ L, checkA a = 0) → ∀ r, atomsF L.length (L.flatMap atomB ++ r) false = (L, r, false)
  | [], _, r => rfl
  | a :: q, h, r => by
    rw [List.length_cons, atomsF_succ, List.flatMap_cons, List.append_assoc, atomF_enc (h a (by simp))]
    simp only [atomsF_enc q (fun x hx => h x (by simp [hx])) r]
theorem atomsF_some : ∀ (m : Nat) (s : List UInt8) (L : List Atm) (r : List UInt8), atomsF m s false = (L, r, false) → L.length = m ∧ s = L.flatMap atomB ++ r
  | 0, s, L, r, h => by
    simp only [atomsF, Prod.mk.injEq] at h
    obtain ⟨rfl, rfl, _⟩ := h
    exact ⟨rfl, rfl⟩
  | m + 1, s, L, r, h => by
    rw [atomsF_succ] at h
    simp only [Prod.mk.injEq] at h
    obtain ⟨h1, h2⟩ := h
    cases hb : (atomF s false).2.2
    · rw [hb] at h1 h2
      have he : atomF s false = ((atomF s false).1, (atomF s false).2.1, false) := Prod.ext rfl (Prod.ext rfl hb)
      have h3 := (atomF_some he).2
      have h4 := atomsF_some m (atomF s false).2.1 (atomsF m (atomF s false).2.1 false).1 r (Prod.ext rfl h2)
      rw [← h1]
      refine ⟨by rw [List.length_cons, h4.1], ?_⟩
      rw [List.flatMap_cons, List.append_assoc, ← h4.2]
      exact h3
    · rw [hb, atomsF_bad] at h2
      simp at h2
/-- What stands behind the first byte of an answers' response. -/
def restF (s1 : List UInt8) (b1 : Bool) : Bool × List Atm × List UInt8 × List UInt8 × Bool :=
  let c := oneF s1 b1
  let n := nmF c.2.1 (c.2.2 || decide (1 < c.1))
  let A := atomsF n.1 n.2.1 n.2.2
  let m := nmF A.2.1 A.2.2
  let t := takeF m.2.1 m.2.2 m.1
  (c.1 == 1, A.1, t.1, t.2.1, t.2.2)
def partsF (s : List UInt8) : Rsp × List UInt8 × Bool :=
  let k := oneF s false
  if k.1 = 0 then ((0, (restF k.2.1 k.2.2).1, (restF k.2.1 k.2.2).2.1, (restF k.2.1 k.2.2).2.2.1), (restF k.2.1 k.2.2).2.2.2.1, (restF k.2.1 k.2.2).2.2.2.2) else (((k.1 : Int), false, [], []), k.2.1, k.2.2)
def readRs (s : List UInt8) : Option Rsp := if (partsF s).2.2 || (!(partsF s).2.1.isEmpty || !mayRs (partsF s).1) then none else some (partsF s).1
theorem nmF_enc {n : Nat} (h : n < 4294967296) (r : List UInt8) : nmF (numL n ++ r) false = (n, r, false) := by
  unfold nmF
  rw [if_neg (by simp), read_num n r h]
  simp
theorem nmF_some {s r : List UInt8} {n : Nat} (h : nmF s false = (n, r, false)) : n < 4294967296 ∧ s = numL n ++ r := by
  have h1 : numP s = some (n, r) := by
    unfold nmF at h
    rw [if_neg (by simp)] at h
    rw [numP]
    cases hr : readL s with
    | none => rw [hr] at h; simp at h
    | some q =>
      obtain ⟨a, b⟩ := q
      rw [hr] at h
      simp only [Prod.mk.injEq] at h
      obtain ⟨rfl, rfl, _⟩ := h
      rfl
  exact numP_back h1
theorem nmF_badd (s : List UInt8) : nmF s true = (0, s, true) := rfl
theorem takeF_some {s t r : List UInt8} {n : Nat} (h : takeF s false n = (t, r, false)) : t.length = n ∧ s = t ++ r := by
  unfold takeF at h
  rw [if_neg (by simp)] at h
  split at h
  · simp at h
  · simp only [Prod.mk.injEq] at h
    obtain ⟨rfl, rfl, _⟩ := h
    rename_i hl
    exact ⟨by rw [List.length_take]; omega, (List.take_append_drop _ _).symm⟩
theorem oneF_some {s r : List UInt8} {k : Nat} (h : oneF s false = (k, r, false)) : s = UInt8.ofNat k :: r ∧ k < 256 := by
  cases s with
  | nil => simp [oneF] at h
  | cons c q =>
    have ho : oneF (c :: q) false = (c.toNat, q, false) := rfl
    rw [ho] at h
    simp only [Prod.mk.injEq] at h
    obtain ⟨rfl, rfl, _⟩ := h
    exact ⟨by simp, c.toNat_lt⟩
theorem oneF_ofNat {k : Nat} (h : k < 256) (r : List UInt8) : oneF (UInt8.ofNat k :: r) false = (k, r, false) := by
  show ((UInt8.ofNat k).toNat, r, false) = _
  rw [UInt8.toNat_ofNat', Nat.mod_eq_of_lt h]
theorem oneF_bad (s : List UInt8) : oneF s true = (0, s, true) := by cases s <;> rfl
theorem restF_enc (ch : Bool) (L : List Atm) (ct : List UInt8) (h : ∀ a ∈ L, checkA a = 0) (hL : L.length < 4294967296) (hc : ct.length < 4294967296) : restF (chB ch :: (numL L.length ++ (L.flatMap atomB ++ textB ct))) false = (ch, L, ct, [], false) := by
  have h1 : oneF (chB ch :: (numL L.length ++ (L.flatMap atomB ++ textB ct))) false = ((if ch then 1 else 0), numL L.length ++ (L.flatMap atomB ++ textB ct), false) := by cases ch <;> rfl
  unfold restF
  rw [h1]
  have h2 : (false || decide (1 < (if ch then 1 else 0))) = false := by cases ch <;> rfl
  simp only
  rw [h2, nmF_enc hL]
  simp only
  rw [atomsF_enc L h]
  simp only
  rw [textB, nmF_enc hc]
  simp only [takeF, Bool.false_eq_true, if_false, Nat.lt_irrefl, List.take_length, List.drop_length]
  cases ch <;> rfl
theorem restF_some {s : List UInt8} {ch : Bool} {L : List Atm} {ct r : List UInt8} {b : Bool} (h : restF s b = (ch, L, ct, r, false)) : b = false ∧ s = chB ch :: (numL L.length ++ (L.flatMap atomB ++ (textB ct ++ r))) := by
  unfold restF at h
  simp only at h
  cases b
  case true =>
    rw [oneF_bad] at h
    simp only [Bool.true_or, nmF_badd, atomsF_bad, takeF, if_true, Prod.mk.injEq] at h
    simp at h
  case false =>
    refine ⟨rfl, ?_⟩
    generalize hc : oneF s false = c at *
    obtain ⟨k, s1, b1⟩ := c
    simp only at h
    cases b1
    case true =>
      simp only [Bool.true_or, nmF_badd, atomsF_bad, takeF, if_true, Prod.mk.injEq] at h
      simp at h
    case false =>
      obtain ⟨h1, _⟩ := oneF_some hc
      by_cases hk : 1 < k
      · simp only [Bool.false_or, decide_eq_true hk, nmF_badd, atomsF_bad, takeF, if_true, Prod.mk.injEq] at h
        simp at h
      · simp only [Bool.false_or, decide_eq_false hk] at h
        generalize hn : nmF s1 false = n at *
        obtain ⟨n, s2, b2⟩ := n
        simp only at h
        cases b2
        case true =>
          simp only [nmF_badd, atomsF_bad, takeF, if_true, Prod.mk.injEq] at h
          simp at h
        case false =>
          obtain ⟨_, h2⟩ := nmF_some hn
          generalize hA : atomsF n s2 false = A at *
          obtain ⟨A, s3, b3⟩ := A
          simp only at h
          cases b3
          case true =>
            simp only [nmF_badd, takeF, if_true, Prod.mk.injEq] at h
            simp at h
          case false =>
            obtain ⟨h3, h4⟩ := atomsF_some n s2 A s3 hA
            generalize hm : nmF s3 false = m at *
            obtain ⟨m, s4, b4⟩ := m
            simp only at h
            cases b4
            case true =>
              simp only [takeF, if_true, Prod.mk.injEq] at h
              simp at h
            case false =>
              obtain ⟨_, h5⟩ := nmF_some hm
              generalize ht : takeF s4 false m = t at *
              obtain ⟨t, s5, b5⟩ := t
              simp only [Prod.mk.injEq] at h
              obtain ⟨e1, e2, e3, e4, e5⟩ := h
              subst e2; subst e3; subst e4; subst e5
              obtain ⟨h6, h7⟩ := takeF_some ht
              have hch : UInt8.ofNat k = chB ch := by
                rw [← e1]
                have : k = 0 ∨ k = 1 := by omega
                rcases this with rfl | rfl <;> rfl
              rw [h1, hch, h2, h4, h5, h7, h3, textB, h6]
              simp only [List.append_assoc]
theorem readRs_some {s : List UInt8} {x : Rsp} (h : readRs s = some x) : mayRs x = true ∧ s = rsB x := by
  unfold readRs at h
  split at h
  · cases h
  · rename_i hb
    rw [Option.some.injEq] at h
    simp only [Bool.or_eq_true, Bool.not_eq_true', not_or, Bool.not_eq_true, Bool.not_eq_false] at hb
    obtain ⟨h1, h2, h3⟩ := hb
    rw [h] at h3
    refine ⟨h3, ?_⟩
    have h4 : (partsF s).2.1 = [] := by simpa using h2
    unfold partsF at h h1 h4
    simp only at h h1 h4
    generalize hk : oneF s false = k at *
    obtain ⟨k, s1, b1⟩ := k
    simp only at h h1 h4
    by_cases h0 : k = 0
    · rw [if_pos h0] at h h1 h4
      simp only at h h1 h4
      generalize hr : restF s1 b1 = r at *
      obtain ⟨ch, L, ct, q, b⟩ := r
      simp only at h h1 h4
      subst h1; subst h4
      obtain ⟨hb1, hs1⟩ := restF_some hr
      subst hb1
      obtain ⟨hs, _⟩ := oneF_some hk
      rw [← h, hs, hs1, h0, List.append_nil]
      rfl
    · rw [if_neg h0] at h h1 h4
      simp only at h h1 h4
      subst h1; subst h4
      obtain ⟨hs, _⟩ := oneF_some hk
      rw [← h, hs]
      unfold rsB
      rw [if_pos (by simpa using h0)]
      simp
theorem readRs_rsB {x : Rsp} (hm : mayRs x = true) (h1 : x.2.2.1.length < 4294967296) (h2 : x.2.2.2.length < 4294967296) : readRs (rsB x) = some x := by
  have hm0 := hm
  obtain ⟨code, ch, L, ct⟩ := x
  rcases mayRs_cases hm with ⟨h0, hp, h16, hch, hL, hct⟩ | ⟨h0, _, hv, _⟩
  · simp only at h0 hp h16 hch hL hct
    subst hch; subst hL; subst hct
    obtain ⟨k, rfl⟩ : ∃ k : Nat, code = (k : Int) := ⟨code.toNat, by omega⟩
    have hk0 : k ≠ 0 := by omega
    have hb : rsB ((k : Int), false, [], []) = [UInt8.ofNat k] := by
      unfold rsB
      rw [if_pos h0, Int.toNat_natCast]
    have ho : oneF (rsB ((k : Int), false, [], [])) false = (k, [], false) := by rw [hb]; exact oneF_ofNat (by omega) []
    have hp : partsF (rsB ((k : Int), false, [], [])) = (((k : Int), false, [], []), [], false) := by
      unfold partsF
      rw [ho]
      simp only
      rw [if_neg hk0]
    unfold readRs
    rw [hp]
    simp [hm0]
  · simp only at h0 hv h1 h2
    subst h0
    have hb : rsB ((0 : Int), ch, L, ct) = UInt8.ofNat 0 :: (chB ch :: (numL L.length ++ (L.flatMap atomB ++ textB ct))) := rfl
    have ho : oneF (rsB ((0 : Int), ch, L, ct)) false = (0, chB ch :: (numL L.length ++ (L.flatMap atomB ++ textB ct)), false) := by rw [hb]; exact oneF_ofNat (by omega) _
    have hp : partsF (rsB ((0 : Int), ch, L, ct)) = ((0, ch, L, ct), [], false) := by
      unfold partsF
      rw [ho]
      simp only
      rw [restF_enc ch L ct (fun a ha => (hv a ha).1) h1 h2, if_pos trivial]
    unfold readRs
    rw [hp]
    simp [hm0]
end Go.Proofs.YtkdeokgkjmboeaaGreatDoor

namespace Go.Proofs.YtkdeokgkjmboeaaGreatDoor
open Go.RowKit

theorem rspInfo : (Tryz.prog.info? 32).map (·.size) = some 4 := by kernel_rfl
theorem atmInfo3 : (Tryz.prog.info? 26).map (fun i => (i.zero, i.size, i.bytes)) = some (some (.agg (atmC zeroAtm)), 11, 136) := by kernel_rfl
def rowA (P : List Atm) : List Value := P.flatMap fun p => (atmC p).toList
theorem atmC_len (x : Atm) : (atmC x).toList.length = 11 := rfl
theorem rowA_len : ∀ P : List Atm, (rowA P).length = P.length * 11
  | [] => rfl
  | p :: r => by
    have := rowA_len r
    rw [rowA, List.flatMap_cons, List.length_append, atmC_len, List.length_cons]
    rw [rowA] at this
    omega
theorem rowA_at : ∀ (P : List Atm) (k j : Nat) (hk : k < P.length), j < 11 → (rowA P)[k * 11 + j]? = (atmC P[k]).toList[j]?
  | p :: r, 0, j, hk, hj => by
    rw [rowA, List.flatMap_cons, List.getElem?_append_left (by rw [atmC_len]; omega)]
    simp
  | p :: r, k + 1, j, hk, hj => by
    have h := rowA_at r k j (by simpa using hk) hj
    rw [rowA, List.flatMap_cons, List.getElem?_append_right (by rw [atmC_len]; omega), atmC_len]
    rw [rowA] at h
    rw [show (k + 1) * 11 + j - 11 = k * 11 + j by omega, h]
    rfl
theorem atmRow_own {W : World} {base : Nat} {v : Value} {P : List Atm} (h : W.ownsRow base 26 11 v P.length (rowA P)) : AtmRow W v P := by
  rcases row_of_own h with ⟨rfl, h0, _⟩ | ⟨b, o, c, rfl, hcc, hcells⟩
  · exact ⟨none, 0, by rw [h0], fun h => by omega⟩
  · refine ⟨some ⟨b, o, none⟩, c, rfl, fun _ => ⟨b, o, rfl, hcc, fun k hk => ?_⟩⟩
    intro j u hu
    have hj : j < 11 := (Array.getElem?_eq_some_iff.1 hu).1
    have hlt : k * 11 + j < (rowA P).length := by rw [rowA_len]; omega
    rw [Nat.add_assoc, hcells _ hlt, ← List.getElem?_eq_getElem hlt, rowA_at P k j hk hj, Array.getElem?_toList]
    exact hu
def rsCells (k : Int) (ch : Bool) (sv : Value) (ct : List UInt8) : Array Value := #[.int .i64 k, .bool ch, sv, .string ⟨ct.toArray⟩]
/-- What stands before the reader's end. -/
def RsCut (s : List UInt8) (w : World) (B : Nat) (wx : World) : Prop :=
  ∃ (x : Rsp) (sv : Value) (s' : List UInt8) (bb : Bool), partsF s = (x, s', bb) ∧ RdF wx (w.heap.size + 1) s' bb ∧ Cel wx B (rsCells x.1 x.2.1 sv x.2.2.2) 32 ∧ wx.ownsRow (B + 1) 26 11 sv x.2.2.1.length (rowA x.2.2.1) ∧ Cel wx w.heap.size (rsCells 0 false (.slice none 0 0) []) 32 ∧ Since w wx ∧ (∀ a ∈ x.2.2.1, lightB a = true) ∧ x.2.2.1.length ≤ 1000000 ∧ sv.oneCell' = true
/-- What the loop over the answers keeps. -/
def RsLoop (w : World) (B : Nat) (ch : Bool) (lim : Nat) (Q : List Atm × List UInt8 × Bool) (m : Nat) (wr : World) : Prop :=
  ∃ (P : List Atm) (sv : Value) (s' : List UInt8) (bb : Bool), RdF wr (w.heap.size + 1) s' bb ∧ Cel wr B (rsCells 0 ch sv []) 32 ∧ wr.ownsRow (B + 1) 26 11 sv P.length (rowA P) ∧ Cel wr w.heap.size (rsCells 0 false (.slice none 0 0) []) 32 ∧ Since w wr ∧ (∀ a ∈ P, lightB a = true) ∧ P.length + (if bb then 0 else s'.length + 1) ≤ lim ∧ s'.length ≤ lim ∧ Q = (P ++ (atomsF m s' bb).1, (atomsF m s' bb).2)
/-- What stands behind the append of an answer, told ahead of its store. -/
theorem looptail {w w8 w9 : World} {B : Nat} {ch : Bool} {s2 : List UInt8} {b2 : Bool} {cv v9 : Value} {P : List Atm} {x : Atm} (hB : Cel w8 B (rsCells 0 ch cv []) 32) (hR : RdF w8 (w.heap.size + 1) s2 b2) (ho : w8.ownsRow (B + 1) 26 11 cv P.length (rowA P)) (hZ : Cel w8 w.heap.size (rsCells 0 false (.slice none 0 0) []) 32) (hS : Since w w8) (hgB : w.heap.size + 1 < B)
    {t : TypeId} (hg9 : (w8.alloc (.cells (atmC x) t)).grownBy w9 cv.ownBlock) (h9 : w9.ownsRow (B + 1) 26 11 v9 (P.length + 1) (rowA P ++ (atmC x).toList)) :
    ∃ g9 c9, v9 = .slice (some ⟨g9, 0, none⟩) (P.length + 1) c9 ∧ w9.cell? ⟨B, 2, none⟩ = some cv ∧ w9.frozen? ⟨B, 2, none⟩ = false ∧ B < w9.heap.size ∧
      Hid (∀ W, W = w9.setCell ⟨B, 2, none⟩ (.slice (some ⟨g9, 0, none⟩) (P.length + 1) c9) → RdF W (w.heap.size + 1) s2 b2 ∧ Cel W B (rsCells 0 ch (.slice (some ⟨g9, 0, none⟩) (P.length + 1) c9) []) 32 ∧ W.ownsRow (B + 1) 26 11 (.slice (some ⟨g9, 0, none⟩) (P.length + 1) c9) (P ++ [x]).length (rowA (P ++ [x])) ∧ Cel W w.heap.size (rsCells 0 false (.slice none 0 0) []) 32 ∧ Since w W) := by
  have hcv : ∀ b, cv.ownBlock = some b → B + 1 ≤ b := fun b hb => (ho.lt b hb).1
  have hA : Since w8 (w8.alloc (.cells (atmC x) t)) := (Since.refl _).alloc _
  have hB9 := (hB.next hA).grown hg9 (fun e => by have := hcv _ e.symm; omega)
  have hR9 := (hR.next hA).grown hg9 (fun e => by have := hcv _ e.symm; omega)
  have hZ9 := (hZ.next hA).grown hg9 (fun e => by have := hcv _ e.symm; omega)
  have hS9 : Since w w9 := Below.grown (hS.trans hA) hg9 (hS.trans hA).size (fun q hq => by have := hcv q hq; omega)
  obtain ⟨g9, c9, rfl⟩ := Joins.ownsRow_form h9 (by omega)
  refine ⟨g9, c9, rfl, hB9.cell 2, hB9.free 2, hB9.lt, fun W hW => ?_⟩
  subst hW
  refine ⟨hR9.far (by show w.heap.size + 1 ≠ B; omega) _, hB9.set rfl, ?_, hZ9.far (by show w.heap.size ≠ B; omega) _, hS9.setCell (by show w.heap.size ≤ B; omega) _⟩
  have e : rowA (P ++ [x]) = rowA P ++ (atmC x).toList := by simp [rowA]
  rw [e, List.length_append]
  exact ownsRow_setCell_below h9 (Nat.lt_succ_self _) _
/-- What ReadResponse answers. -/
def RsPost (s : List UInt8) (w : World) (e : Ending) (w' : World) : Prop :=
  ∃ v, e = .returned (.tuple #[.agg (rsCells ((readRs s).getD (0, false, [], [])).1 ((readRs s).getD (0, false, [], [])).2.1 v ((readRs s).getD (0, false, [], [])).2.2.2), .int .i64 (if (readRs s).isSome then 0 else 15)]) ∧ AtmRow w' v ((readRs s).getD (0, false, [], [])).2.2.1 ∧ Since w w'
theorem takeF_le (s : List UInt8) (b : Bool) (n : Nat) : (takeF s b n).2.1.length ≤ s.length := by
  unfold takeF
  split
  · exact Nat.le_refl _
  · split
    · exact Nat.le_refl _
    · simp only [List.length_drop]; omega
theorem nmF_le (s : List UInt8) (b : Bool) : (nmF s b).2.1.length ≤ s.length ∧ (nmF s b).1 < 4294967296 := by
  unfold nmF
  split
  · exact ⟨Nat.le_refl _, by omega⟩
  · cases hr : readL s with
    | none => exact ⟨Nat.le_refl _, by simp⟩
    | some q =>
      obtain ⟨n, k⟩ := q
      have := readL_len hr
      simp only [List.length_drop]
      omega
theorem grown_row (W : World) (B : Nat) (cs : Array Value) : W.grownBy (W.setRow B cs) (some B) :=
  ⟨rfl, rfl, rfl, by simp, fun k hk hne => setRow_other W B k cs (fun e => hne (by rw [e]))⟩
theorem atmRow_nil (W : World) : AtmRow W (.slice none 0 0) [] := ⟨none, 0, rfl, fun h => absurd h (Nat.lt_irrefl 0)⟩
set_option maxHeartbeats 8000000 in
set_option maxRecDepth 100000 in
theorem readresp_any (s : List UInt8) (w : World) (hs : s.length ≤ 900000) (hE : Env w) :
    Calls Tryz.prog 13 #[.string ⟨s.toArray⟩] w (RsPost s w) := by
  have hA : Since w ((w.alloc (.cells #[.int .i64 0, .bool false, .slice none 0 0, .string ⟨#[]⟩] 32)).alloc (.cells #[.string ⟨s.toArray⟩, .int .i64 0] 53)) := ((Since.refl _).alloc _).alloc _
  have hZ : Cel ((w.alloc (.cells #[.int .i64 0, .bool false, .slice none 0 0, .string ⟨#[]⟩] 32)).alloc (.cells #[.string ⟨s.toArray⟩, .int .i64 0] 53)) w.heap.size (rsCells 0 false (.slice none 0 0) []) 32 := Cel.next (W := w.alloc (.cells #[.int .i64 0, .bool false, .slice none 0 0, .string ⟨#[]⟩] 32)) (heap_alloc_new w _) ((Since.refl _).alloc _)
  have hR : RdF ((w.alloc (.cells #[.int .i64 0, .bool false, .slice none 0 0, .string ⟨#[]⟩] 32)).alloc (.cells #[.string ⟨s.toArray⟩, .int .i64 0] 53)) (w.heap.size + 1) s false := by
    have h := heap_alloc_new (w.alloc (.cells #[.int .i64 0, .bool false, .slice none 0 0, .string ⟨#[]⟩] 32)) (.cells #[.string ⟨s.toArray⟩, .int .i64 0] 53)
    rw [World.size_alloc] at h
    exact h
  have HO := Lib.hid (fun W hR => fone_any s false (w.heap.size + 1) W hR)
  obtain ⟨l1, k256⟩ := oneF_len s false
  obtain ⟨k, hk⟩ : ∃ k, Hid (k = oneF s false) := ⟨_, rfl⟩
  unfold OnePost at HO
  rw [← hk.out] at HO l1 k256
  have hPF : Hid (partsF s = if k.1 = 0 then ((0, (restF k.2.1 k.2.2).1, (restF k.2.1 k.2.2).2.1, (restF k.2.1 k.2.2).2.2.1), (restF k.2.1 k.2.2).2.2.2.1, (restF k.2.1 k.2.2).2.2.2.2) else (((k.1 : Int), false, [], []), k.2.1, k.2.2)) := by
    show _ = _
    rw [hk.out]; rfl
  obtain ⟨k, s1, b1⟩ := k
  simp only at HO l1 k256 hPF
  have HE := Lib.hid hE
  obtain ⟨i0, hi0, hz0, hz1, hz2⟩ := info_parts atmInfo3
  have HI := Lib.hid (And.intro hi0 (And.intro hz0 (And.intro hz1 hz2)))
  clear hE hk hi0 hz0 hz1 hz2
  go_enter Tryz.func13, Tryz.ntmps13
  go_wp2_with fail
  refine (HO.out _ hR).mono ?_
  rintro e w1 ⟨rfl, hR1, hg1⟩
  have hS1 : Since w w1 := since_far hA hg1 (Nat.le_succ _)
  have hZ1 := hZ.grown hg1 (by simp)
  have hA1 : Since w1 (w1.alloc (.cells #[.int .i64 (k : Int), .bool false, .slice none 0 0, .string ⟨#[]⟩] 32)) := (Since.refl _).alloc _
  have hB1 : Cel (w1.alloc (.cells #[.int .i64 (k : Int), .bool false, .slice none 0 0, .string ⟨#[]⟩] 32)) w1.heap.size (rsCells (k : Int) false (.slice none 0 0) []) 32 := heap_alloc_new w1 _
  have hl1 := hR1.lt
  have hR2 := hR1.next hA1
  have hZ2 := hZ1.next hA1
  have hS2 := hS1.trans hA1
  clear hA hZ hR hg1 HO hR1 hZ1
  go_upto_if 16 with (fail)
  go_cut [6] (fun s6 wx => RsCut s w w1.heap.size wx)
  case first =>
    by_cases h0 : k = 0
    · subst h0
      simp only [if_true] at hPF
      obtain ⟨l2, g256⟩ := oneF_len s1 b1
      have HO2 := Lib.hid (fun W hR => fone_any s1 b1 (w.heap.size + 1) W hR)
      unfold OnePost at HO2
      unfold restF at hPF
      simp only at hPF
      generalize oneF s1 b1 = q at *
      obtain ⟨q, s2, b2⟩ := q
      simp only at HO2 l2 g256 hPF
      go_wp2_with fail
      refine (HO2.out _ hR2).mono ?_
      rintro e w3 ⟨rfl, hR3, hg3⟩
      have hS3 : Since w w3 := since_far hS2 hg3 (Nat.le_succ _)
      have hZ3 := hZ2.grown hg3 (by simp)
      have hB3 := hB1.grown hg3 (fun e => by injection e with e; omega)
      have hBl := hB3.lt
      clear hR2 hZ2 hB1 hg3 HO2 hS2 hA1
      have e1 := hR3.c1
      have e2 := hR3.lt
      have e3 := hR3.free
      have e4 : w3.cell? ⟨w1.heap.size, 1, none⟩ = some (.bool false) := hB3.cell 1
      have e5 := hB3.lt
      have e6 := hB3.free
      rcases (show q = 0 ∨ q = 1 ∨ 1 < q by omega) with rfl | rfl | hq
      · obtain ⟨b3, hb3⟩ : ∃ b3 : Bool, Hid (b3 = (b2 || decide (1 < 0))) := ⟨(b2 || decide (1 < 0)), rfl⟩
        rw [← hb3.out] at hPF
        obtain ⟨w5, hw5⟩ : ∃ w5, Hid (w3.setCell ⟨w1.heap.size, 1, none⟩ (.bool false) = w5) := ⟨_, rfl⟩
        have hR5 : RdF w5 (w.heap.size + 1) s2 b3 := by
          rw [hb3.out, ← hw5.out]
          rw [show decide (1 < 0) = false from rfl, Bool.or_false]
          exact hR3.far (by show w.heap.size + 1 ≠ w1.heap.size; omega) _
        have hB5 : Cel w5 w1.heap.size (rsCells 0 false (.slice none 0 0) []) 32 := by
          rw [← hw5.out]
          exact hB3.set rfl
        have hZ5 : Cel w5 w.heap.size (rsCells 0 false (.slice none 0 0) []) 32 := by
          rw [← hw5.out]
          exact hZ3.far (by show w.heap.size ≠ w1.heap.size; omega) _
        have hS5 : Since w w5 := by
          rw [← hw5.out]
          exact hS3.setCell (by show w.heap.size ≤ w1.heap.size; omega) _
        clear hZ3 hB3 hR3 hS3 hb3
        go_wp2_with fail
        rw [hw5.out]
        clear hw5 e1 e2 e3 e4 e5 e6
        have HN := Lib.hid (fun W hR => fnum_any s2 b3 (w.heap.size + 1) W (by omega) hR)
        obtain ⟨l3, n4⟩ := nmF_le s2 b3
        unfold NmPost at HN
        generalize nmF s2 b3 = N at *
        obtain ⟨n, s3, b4⟩ := N
        simp only at HN l3 n4 hPF
        refine (HN.out _ hR5).mono ?_
        rintro e w6 ⟨rfl, hR6, hg6⟩
        have hS6 : Since w w6 := since_far hS5 hg6 (Nat.le_succ _)
        have hZ6 := hZ5.grown hg6 (by simp)
        have hB6 := hB5.grown hg6 (fun e => by injection e with e; omega)
        obtain ⟨Q, hQ⟩ : ∃ Q, Hid (Q = atomsF n s3 b4) := ⟨_, rfl⟩
        rw [← hQ.out] at hPF
        have hL6 : Hid (RsLoop w w1.heap.size false (s.length + 1) Q n w6) := ⟨[], .slice none 0 0, s3, b4, hR6, hB6, World.ownsRow_nil _ _ _ _, hZ6, hS6, by simp, by rw [List.length_nil]; split <;> omega, by omega, hQ.out⟩
        clear hR5 hg6 hZ5 hB5 hS5 HN hR6 hS6 hZ6 hB6 hQ
        go_wp2_with fail
        go_loopw [7] (fun x wr => ∃ m : Nat, x = .int .i64 (m : Int) ∧ m ≤ n ∧ Hid (RsLoop w w1.heap.size false (s.length + 1) Q m wr)) (fun x _ => (intOf x).toNat)
        case atStart => exact ⟨n, rfl, Nat.le_refl _, hL6.out⟩
        case round =>
          clear hL6
          obtain ⟨m, rfl, hmn, hloop⟩ := hrel
          obtain ⟨P, sv, s', bb, hR, hB, how, hZ, hS, hli, hlim, hsl, hQ⟩ := hloop.out
          clear hloop
          have HQ := Lib.hid hQ
          have HLI := Lib.hid hli
          clear hQ hli
          have c1 := hR.c1
          have hlg := hR.lt
          have hfg := hR.free
          have hlb := hB.lt
          have hfb := hB.free
          by_cases hgo : 0 < m ∧ bb = false
          · obtain ⟨hm0, rfl⟩ := hgo
            simp only [Bool.false_eq_true, if_false] at c1 hlim
            obtain ⟨m', rfl⟩ : ∃ m', m = m' + 1 := ⟨m - 1, by omega⟩
            have HAT := Lib.hid (fun W hR hE => fatom_any s' false (w.heap.size + 1) W (by omega) hR hE)
            have hla := atomF_le s' false
            have hless := @atomF_less s'
            have hlt2 := atomF_light s' false
            obtain ⟨R, hRd⟩ : ∃ R, Hid (R = atomF s' false) := ⟨_, rfl⟩
            have hQ2 : Hid (Q = ((P ++ [R.1]) ++ (atomsF m' R.2.1 R.2.2).1, (atomsF m' R.2.1 R.2.2).2)) := by
              show _ = _
              rw [HQ.out, atomsF_succ, ← hRd.out]; simp
            unfold AtPost at HAT
            rw [← hRd.out] at HAT hla hless hlt2
            obtain ⟨⟨x_s, x_p, x_n, ⟨x_v0, x_l0⟩, ⟨x_v1, x_l1⟩, ⟨x_v2, x_l2⟩, ⟨x_v3, x_l3⟩⟩, s8, b8⟩ := R
            simp only [atmC] at HAT hla hless hlt2 hQ2
            have hRd2 : RdF wr.drew (w.heap.size + 1) s' false := hR
            have hBd : Cel wr.drew w1.heap.size (rsCells 0 false sv []) 32 := hB
            have hZd : Cel wr.drew w.heap.size (rsCells 0 false (.slice none 0 0) []) 32 := hZ
            have howd : wr.drew.ownsRow (w1.heap.size + 1) 26 11 sv P.length (rowA P) := how
            have hSd : Since w wr.drew := hS.drew
            have hEd := HE.out.next hSd
            have z2 : wr.cell? ⟨w1.heap.size, 2, none⟩ = some sv := hB.cell 2
            have hgb : w.heap.size + 1 < w1.heap.size := hl1
            have hone : Hid (∀ u ∈ (#[.string ⟨x_s.toArray⟩, .string ⟨x_p.toArray⟩, .int .i64 x_n, .bool x_v0, .string ⟨x_l0.toArray⟩, .bool x_v1, .string ⟨x_l1.toArray⟩, .bool x_v2, .string ⟨x_l2.toArray⟩, .bool x_v3, .string ⟨x_l3.toArray⟩] : Array Value).toList, u.oneCell' = true) := by show ∀ u ∈ _, _; simp [Value.oneCell']
            have hPl : P.length ≤ 900001 := by omega
            clear HQ hRd hR hB hZ how hS
            go_wp2_with fail
            go_region_law (first
              | (go_simp; go_at_call 26; (with_reducible refine Calls.mono (HAT.out _ ?_ ?_) ?_); exact hRd2; exact hEd; rintro e w8 ⟨rfl, hR8, hg8⟩; have hB8 := hBd.grown hg8 (fun e => by injection e with e; omega); have hZ8 := hZd.grown hg8 (by simp); have ho8 := own_far' howd hg8 (by omega); have hS8 := since_far hSd hg8 (Nat.le_succ _); have y2 : w8.cell? ⟨w1.heap.size, 2, none⟩ = some sv := hB8.cell 2; have hz8 : w1.heap.size < w8.heap.size := hB8.lt; have y2a : (w8.alloc (.cells #[.string ⟨x_s.toArray⟩, .string ⟨x_p.toArray⟩, .int .i64 x_n, .bool x_v0, .string ⟨x_l0.toArray⟩, .bool x_v1, .string ⟨x_l1.toArray⟩, .bool x_v2, .string ⟨x_l2.toArray⟩, .bool x_v3, .string ⟨x_l3.toArray⟩] 26)).cell? ⟨w1.heap.size, 2, none⟩ = some sv := Since.cell ((Since.refl _).alloc _) y2)
              | ((refine step_append_own rfl (.tmp 41) (.tmp 44) 30 rfl (w1.heap.size + 1) 26 i0 (.agg (atmC zeroAtm)) 11 136 Tryz.underlying30 HI.out.1 HI.out.2.1 HI.out.2.2.1 HI.out.2.2.2 rfl (by decide) sv P.length (rowA P) rfl (ho8.alloc _) ⟨w8.heap.size, 0, none⟩ 1 1 (#[.string ⟨x_s.toArray⟩, .string ⟨x_p.toArray⟩, .int .i64 x_n, .bool x_v0, .string ⟨x_l0.toArray⟩, .bool x_v1, .string ⟨x_l1.toArray⟩, .bool x_v2, .string ⟨x_l2.toArray⟩, .bool x_v3, .string ⟨x_l3.toArray⟩] : Array Value).toList rfl rfl (cellsN _ _ _ _ rfl) hone.out (by unfold maxLen; omega) (by omega) (by simp; omega) ?_); intro v9 w9 hown9 hg9 _; have hx9 := looptail (x := ((x_s, x_p, x_n, (x_v0, x_l0), (x_v1, x_l1), (x_v2, x_l2), (x_v3, x_l3)) : Atm)) hB8 hR8 ho8 hZ8 hS8 hgb hg9 hown9; clear hown9 hg9; obtain ⟨g9, c9, rfl, yb, yf, yl, hX9⟩ := hx9))
            all_goals
              go_wp2_with fail
              have hX := hX9.out _ rfl
              have hXH := Lib.hid hX
              clear hX9 hX
              go_roundw
              case rel =>
                refine ⟨m', by go_num, by omega, ⟨P ++ [((x_s, x_p, x_n, (x_v0, x_l0), (x_v1, x_l1), (x_v2, x_l2), (x_v3, x_l3)) : Atm)], .slice (some ⟨g9, 0, none⟩) (P.length + 1) c9, s8, b8, hXH.out.1, hXH.out.2.1, hXH.out.2.2.1, hXH.out.2.2.2.1, hXH.out.2.2.2.2, ?_, ?_, by omega, hQ2.out⟩⟩
                · intro y hy
                  rcases List.mem_append.1 hy with hy | hy
                  · exact HLI.out y hy
                  · simp only [List.mem_cons, List.not_mem_nil, or_false] at hy
                    rw [hy]; exact hlt2
                · rw [List.length_append, List.length_singleton]
                  cases b8
                  · have := hless rfl
                    simp only [Bool.false_eq_true, if_false]; omega
                  · simp only [if_true]; omega
              case measure => simp [intOf]
          · have hQe : Q = (P, s', bb) := by
              rw [HQ.out]
              by_cases hm0 : 0 < m
              · obtain rfl : bb = true := by
                  cases bb
                  · exact absurd ⟨hm0, rfl⟩ hgo
                  · rfl
                rw [atomsF_bad]; simp
              · rw [show m = 0 by omega, atomsF]; simp
            rw [hQe] at hPF
            simp only at hPF
            have HN7 := Lib.hid (fun W hR => fnum_any s' bb (w.heap.size + 1) W (by omega) hR)
            obtain ⟨l7, n7⟩ := nmF_le s' bb
            unfold NmPost at HN7
            generalize nmF s' bb = N7 at *
            obtain ⟨n9, s9, b9⟩ := N7
            simp only at HN7 l7 n7 hPF
            have HT := Lib.hid (fun W hR => ftake_any s9 b9 n9 (w.heap.size + 1) W hR)
            unfold TakePost at HT
            generalize takeF s9 b9 n9 = T9 at *
            obtain ⟨t9, s10, b10⟩ := T9
            simp only at HT hPF
            have HPF := Lib.hid hPF
            have hone : sv.oneCell' = true := by
              rcases Joins.ownsRow_forms how with ⟨rfl, _⟩ | ⟨_, _, rfl⟩ <;> simp [Value.oneCell']
            have hPl : P.length ≤ 1000000 := by
              have h : P.length ≤ s.length + 1 := Nat.le_trans (Nat.le_add_right _ _) hlim
              omega
            have HR0 := Lib.hid hR
            have HB0 := Lib.hid hB
            have HZ0 := Lib.hid hZ
            have HO0 := Lib.hid how
            clear hPF HQ hQe hR hB hZ how hlim
            by_cases hm0 : 0 < m
            · obtain rfl : bb = true := by
                cases bb
                · exact absurd ⟨hm0, rfl⟩ hgo
                · rfl
              simp only [if_true] at c1
              clear hgo
              go_wp2_with fail
              refine (HN7.out _ HR0.out).mono ?_
              rintro e w8 ⟨rfl, hR8, hg8⟩
              have hB8 := HB0.out.grown hg8 (fun e => by injection e with e; omega)
              have hZ8 := HZ0.out.grown hg8 (by simp)
              have ho8 := own_far' HO0.out hg8 (by omega)
              have hS8 : Since w w8 := since_far hS hg8 (Nat.le_succ _)
              go_wp2_with fail
              refine (HT.out _ hR8).mono ?_
              rintro e w9 ⟨rfl, hR9, hg9⟩
              have hB9 := hB8.grown hg9 (fun e => by injection e with e; omega)
              have hZ9 := hZ8.grown hg9 (by simp)
              have ho9 := own_far' ho8 hg9 (by omega)
              have hS9 : Since w w9 := since_far hS8 hg9 (Nat.le_succ _)
              have y3 : w9.cell? ⟨w1.heap.size, 3, none⟩ = some (.string ⟨#[]⟩) := hB9.cell 3
              have yf := hB9.free
              have yl := hB9.lt
              clear c1 hlg hfg hlb hfb
              go_wp2_with fail
              go_meet
              exact ⟨(0, false, P, t9), sv, s10, b10, HPF.out, hR9.far (by show w.heap.size + 1 ≠ w1.heap.size; omega) _, hB9.set rfl, ownsRow_setCell_below ho9 (Nat.lt_succ_self _) _, hZ9.far (by show w.heap.size ≠ w1.heap.size; omega) _, hS9.setCell (by show w.heap.size ≤ w1.heap.size; omega) _, HLI.out, hPl, hone⟩
            · obtain rfl : m = 0 := by omega
              clear hgo hm0
              go_wp2_with fail
              refine (HN7.out _ HR0.out).mono ?_
              rintro e w8 ⟨rfl, hR8, hg8⟩
              have hB8 := HB0.out.grown hg8 (fun e => by injection e with e; omega)
              have hZ8 := HZ0.out.grown hg8 (by simp)
              have ho8 := own_far' HO0.out hg8 (by omega)
              have hS8 : Since w w8 := since_far hS hg8 (Nat.le_succ _)
              go_wp2_with fail
              refine (HT.out _ hR8).mono ?_
              rintro e w9 ⟨rfl, hR9, hg9⟩
              have hB9 := hB8.grown hg9 (fun e => by injection e with e; omega)
              have hZ9 := hZ8.grown hg9 (by simp)
              have ho9 := own_far' ho8 hg9 (by omega)
              have hS9 : Since w w9 := since_far hS8 hg9 (Nat.le_succ _)
              have y3 : w9.cell? ⟨w1.heap.size, 3, none⟩ = some (.string ⟨#[]⟩) := hB9.cell 3
              have yf := hB9.free
              have yl := hB9.lt
              clear c1 hlg hfg hlb hfb
              go_wp2_with fail
              go_meet
              exact ⟨(0, false, P, t9), sv, s10, b10, HPF.out, hR9.far (by show w.heap.size + 1 ≠ w1.heap.size; omega) _, hB9.set rfl, ownsRow_setCell_below ho9 (Nat.lt_succ_self _) _, hZ9.far (by show w.heap.size ≠ w1.heap.size; omega) _, hS9.setCell (by show w.heap.size ≤ w1.heap.size; omega) _, HLI.out, hPl, hone⟩
      · obtain ⟨b3, hb3⟩ : ∃ b3 : Bool, Hid (b3 = (b2 || decide (1 < 1))) := ⟨(b2 || decide (1 < 1)), rfl⟩
        rw [← hb3.out] at hPF
        obtain ⟨w5, hw5⟩ : ∃ w5, Hid (w3.setCell ⟨w1.heap.size, 1, none⟩ (.bool true) = w5) := ⟨_, rfl⟩
        have hR5 : RdF w5 (w.heap.size + 1) s2 b3 := by
          rw [hb3.out, ← hw5.out]
          rw [show decide (1 < 1) = false from rfl, Bool.or_false]
          exact hR3.far (by show w.heap.size + 1 ≠ w1.heap.size; omega) _
        have hB5 : Cel w5 w1.heap.size (rsCells 0 true (.slice none 0 0) []) 32 := by
          rw [← hw5.out]
          exact hB3.set rfl
        have hZ5 : Cel w5 w.heap.size (rsCells 0 false (.slice none 0 0) []) 32 := by
          rw [← hw5.out]
          exact hZ3.far (by show w.heap.size ≠ w1.heap.size; omega) _
        have hS5 : Since w w5 := by
          rw [← hw5.out]
          exact hS3.setCell (by show w.heap.size ≤ w1.heap.size; omega) _
        clear hZ3 hB3 hR3 hS3 hb3
        go_wp2_with fail
        rw [hw5.out]
        clear hw5 e1 e2 e3 e4 e5 e6
        have HN := Lib.hid (fun W hR => fnum_any s2 b3 (w.heap.size + 1) W (by omega) hR)
        obtain ⟨l3, n4⟩ := nmF_le s2 b3
        unfold NmPost at HN
        generalize nmF s2 b3 = N at *
        obtain ⟨n, s3, b4⟩ := N
        simp only at HN l3 n4 hPF
        refine (HN.out _ hR5).mono ?_
        rintro e w6 ⟨rfl, hR6, hg6⟩
        have hS6 : Since w w6 := since_far hS5 hg6 (Nat.le_succ _)
        have hZ6 := hZ5.grown hg6 (by simp)
        have hB6 := hB5.grown hg6 (fun e => by injection e with e; omega)
        obtain ⟨Q, hQ⟩ : ∃ Q, Hid (Q = atomsF n s3 b4) := ⟨_, rfl⟩
        rw [← hQ.out] at hPF
        have hL6 : Hid (RsLoop w w1.heap.size true (s.length + 1) Q n w6) := ⟨[], .slice none 0 0, s3, b4, hR6, hB6, World.ownsRow_nil _ _ _ _, hZ6, hS6, by simp, by rw [List.length_nil]; split <;> omega, by omega, hQ.out⟩
        clear hR5 hg6 hZ5 hB5 hS5 HN hR6 hS6 hZ6 hB6 hQ
        go_wp2_with fail
        go_loopw [7] (fun x wr => ∃ m : Nat, x = .int .i64 (m : Int) ∧ m ≤ n ∧ Hid (RsLoop w w1.heap.size true (s.length + 1) Q m wr)) (fun x _ => (intOf x).toNat)
        case atStart => exact ⟨n, rfl, Nat.le_refl _, hL6.out⟩
        case round =>
          clear hL6
          obtain ⟨m, rfl, hmn, hloop⟩ := hrel
          obtain ⟨P, sv, s', bb, hR, hB, how, hZ, hS, hli, hlim, hsl, hQ⟩ := hloop.out
          clear hloop
          have HQ := Lib.hid hQ
          have HLI := Lib.hid hli
          clear hQ hli
          have c1 := hR.c1
          have hlg := hR.lt
          have hfg := hR.free
          have hlb := hB.lt
          have hfb := hB.free
          by_cases hgo : 0 < m ∧ bb = false
          · obtain ⟨hm0, rfl⟩ := hgo
            simp only [Bool.false_eq_true, if_false] at c1 hlim
            obtain ⟨m', rfl⟩ : ∃ m', m = m' + 1 := ⟨m - 1, by omega⟩
            have HAT := Lib.hid (fun W hR hE => fatom_any s' false (w.heap.size + 1) W (by omega) hR hE)
            have hla := atomF_le s' false
            have hless := @atomF_less s'
            have hlt2 := atomF_light s' false
            obtain ⟨R, hRd⟩ : ∃ R, Hid (R = atomF s' false) := ⟨_, rfl⟩
            have hQ2 : Hid (Q = ((P ++ [R.1]) ++ (atomsF m' R.2.1 R.2.2).1, (atomsF m' R.2.1 R.2.2).2)) := by
              show _ = _
              rw [HQ.out, atomsF_succ, ← hRd.out]; simp
            unfold AtPost at HAT
            rw [← hRd.out] at HAT hla hless hlt2
            obtain ⟨⟨x_s, x_p, x_n, ⟨x_v0, x_l0⟩, ⟨x_v1, x_l1⟩, ⟨x_v2, x_l2⟩, ⟨x_v3, x_l3⟩⟩, s8, b8⟩ := R
            simp only [atmC] at HAT hla hless hlt2 hQ2
            have hRd2 : RdF wr.drew (w.heap.size + 1) s' false := hR
            have hBd : Cel wr.drew w1.heap.size (rsCells 0 true sv []) 32 := hB
            have hZd : Cel wr.drew w.heap.size (rsCells 0 false (.slice none 0 0) []) 32 := hZ
            have howd : wr.drew.ownsRow (w1.heap.size + 1) 26 11 sv P.length (rowA P) := how
            have hSd : Since w wr.drew := hS.drew
            have hEd := HE.out.next hSd
            have z2 : wr.cell? ⟨w1.heap.size, 2, none⟩ = some sv := hB.cell 2
            have hgb : w.heap.size + 1 < w1.heap.size := hl1
            have hone : Hid (∀ u ∈ (#[.string ⟨x_s.toArray⟩, .string ⟨x_p.toArray⟩, .int .i64 x_n, .bool x_v0, .string ⟨x_l0.toArray⟩, .bool x_v1, .string ⟨x_l1.toArray⟩, .bool x_v2, .string ⟨x_l2.toArray⟩, .bool x_v3, .string ⟨x_l3.toArray⟩] : Array Value).toList, u.oneCell' = true) := by show ∀ u ∈ _, _; simp [Value.oneCell']
            have hPl : P.length ≤ 900001 := by omega
            clear HQ hRd hR hB hZ how hS
            go_wp2_with fail
            go_region_law (first
              | (go_simp; go_at_call 26; (with_reducible refine Calls.mono (HAT.out _ ?_ ?_) ?_); exact hRd2; exact hEd; rintro e w8 ⟨rfl, hR8, hg8⟩; have hB8 := hBd.grown hg8 (fun e => by injection e with e; omega); have hZ8 := hZd.grown hg8 (by simp); have ho8 := own_far' howd hg8 (by omega); have hS8 := since_far hSd hg8 (Nat.le_succ _); have y2 : w8.cell? ⟨w1.heap.size, 2, none⟩ = some sv := hB8.cell 2; have hz8 : w1.heap.size < w8.heap.size := hB8.lt; have y2a : (w8.alloc (.cells #[.string ⟨x_s.toArray⟩, .string ⟨x_p.toArray⟩, .int .i64 x_n, .bool x_v0, .string ⟨x_l0.toArray⟩, .bool x_v1, .string ⟨x_l1.toArray⟩, .bool x_v2, .string ⟨x_l2.toArray⟩, .bool x_v3, .string ⟨x_l3.toArray⟩] 26)).cell? ⟨w1.heap.size, 2, none⟩ = some sv := Since.cell ((Since.refl _).alloc _) y2)
              | ((refine step_append_own rfl (.tmp 41) (.tmp 44) 30 rfl (w1.heap.size + 1) 26 i0 (.agg (atmC zeroAtm)) 11 136 Tryz.underlying30 HI.out.1 HI.out.2.1 HI.out.2.2.1 HI.out.2.2.2 rfl (by decide) sv P.length (rowA P) rfl (ho8.alloc _) ⟨w8.heap.size, 0, none⟩ 1 1 (#[.string ⟨x_s.toArray⟩, .string ⟨x_p.toArray⟩, .int .i64 x_n, .bool x_v0, .string ⟨x_l0.toArray⟩, .bool x_v1, .string ⟨x_l1.toArray⟩, .bool x_v2, .string ⟨x_l2.toArray⟩, .bool x_v3, .string ⟨x_l3.toArray⟩] : Array Value).toList rfl rfl (cellsN _ _ _ _ rfl) hone.out (by unfold maxLen; omega) (by omega) (by simp; omega) ?_); intro v9 w9 hown9 hg9 _; have hx9 := looptail (x := ((x_s, x_p, x_n, (x_v0, x_l0), (x_v1, x_l1), (x_v2, x_l2), (x_v3, x_l3)) : Atm)) hB8 hR8 ho8 hZ8 hS8 hgb hg9 hown9; clear hown9 hg9; obtain ⟨g9, c9, rfl, yb, yf, yl, hX9⟩ := hx9))
            all_goals
              go_wp2_with fail
              have hX := hX9.out _ rfl
              have hXH := Lib.hid hX
              clear hX9 hX
              go_roundw
              case rel =>
                refine ⟨m', by go_num, by omega, ⟨P ++ [((x_s, x_p, x_n, (x_v0, x_l0), (x_v1, x_l1), (x_v2, x_l2), (x_v3, x_l3)) : Atm)], .slice (some ⟨g9, 0, none⟩) (P.length + 1) c9, s8, b8, hXH.out.1, hXH.out.2.1, hXH.out.2.2.1, hXH.out.2.2.2.1, hXH.out.2.2.2.2, ?_, ?_, by omega, hQ2.out⟩⟩
                · intro y hy
                  rcases List.mem_append.1 hy with hy | hy
                  · exact HLI.out y hy
                  · simp only [List.mem_cons, List.not_mem_nil, or_false] at hy
                    rw [hy]; exact hlt2
                · rw [List.length_append, List.length_singleton]
                  cases b8
                  · have := hless rfl
                    simp only [Bool.false_eq_true, if_false]; omega
                  · simp only [if_true]; omega
              case measure => simp [intOf]
          · have hQe : Q = (P, s', bb) := by
              rw [HQ.out]
              by_cases hm0 : 0 < m
              · obtain rfl : bb = true := by
                  cases bb
                  · exact absurd ⟨hm0, rfl⟩ hgo
                  · rfl
                rw [atomsF_bad]; simp
              · rw [show m = 0 by omega, atomsF]; simp
            rw [hQe] at hPF
            simp only at hPF
            have HN7 := Lib.hid (fun W hR => fnum_any s' bb (w.heap.size + 1) W (by omega) hR)
            obtain ⟨l7, n7⟩ := nmF_le s' bb
            unfold NmPost at HN7
            generalize nmF s' bb = N7 at *
            obtain ⟨n9, s9, b9⟩ := N7
            simp only at HN7 l7 n7 hPF
            have HT := Lib.hid (fun W hR => ftake_any s9 b9 n9 (w.heap.size + 1) W hR)
            unfold TakePost at HT
            generalize takeF s9 b9 n9 = T9 at *
            obtain ⟨t9, s10, b10⟩ := T9
            simp only at HT hPF
            have HPF := Lib.hid hPF
            have hone : sv.oneCell' = true := by
              rcases Joins.ownsRow_forms how with ⟨rfl, _⟩ | ⟨_, _, rfl⟩ <;> simp [Value.oneCell']
            have hPl : P.length ≤ 1000000 := by
              have h : P.length ≤ s.length + 1 := Nat.le_trans (Nat.le_add_right _ _) hlim
              omega
            have HR0 := Lib.hid hR
            have HB0 := Lib.hid hB
            have HZ0 := Lib.hid hZ
            have HO0 := Lib.hid how
            clear hPF HQ hQe hR hB hZ how hlim
            by_cases hm0 : 0 < m
            · obtain rfl : bb = true := by
                cases bb
                · exact absurd ⟨hm0, rfl⟩ hgo
                · rfl
              simp only [if_true] at c1
              clear hgo
              go_wp2_with fail
              refine (HN7.out _ HR0.out).mono ?_
              rintro e w8 ⟨rfl, hR8, hg8⟩
              have hB8 := HB0.out.grown hg8 (fun e => by injection e with e; omega)
              have hZ8 := HZ0.out.grown hg8 (by simp)
              have ho8 := own_far' HO0.out hg8 (by omega)
              have hS8 : Since w w8 := since_far hS hg8 (Nat.le_succ _)
              go_wp2_with fail
              refine (HT.out _ hR8).mono ?_
              rintro e w9 ⟨rfl, hR9, hg9⟩
              have hB9 := hB8.grown hg9 (fun e => by injection e with e; omega)
              have hZ9 := hZ8.grown hg9 (by simp)
              have ho9 := own_far' ho8 hg9 (by omega)
              have hS9 : Since w w9 := since_far hS8 hg9 (Nat.le_succ _)
              have y3 : w9.cell? ⟨w1.heap.size, 3, none⟩ = some (.string ⟨#[]⟩) := hB9.cell 3
              have yf := hB9.free
              have yl := hB9.lt
              clear c1 hlg hfg hlb hfb
              go_wp2_with fail
              go_meet
              exact ⟨(0, true, P, t9), sv, s10, b10, HPF.out, hR9.far (by show w.heap.size + 1 ≠ w1.heap.size; omega) _, hB9.set rfl, ownsRow_setCell_below ho9 (Nat.lt_succ_self _) _, hZ9.far (by show w.heap.size ≠ w1.heap.size; omega) _, hS9.setCell (by show w.heap.size ≤ w1.heap.size; omega) _, HLI.out, hPl, hone⟩
            · obtain rfl : m = 0 := by omega
              clear hgo hm0
              go_wp2_with fail
              refine (HN7.out _ HR0.out).mono ?_
              rintro e w8 ⟨rfl, hR8, hg8⟩
              have hB8 := HB0.out.grown hg8 (fun e => by injection e with e; omega)
              have hZ8 := HZ0.out.grown hg8 (by simp)
              have ho8 := own_far' HO0.out hg8 (by omega)
              have hS8 : Since w w8 := since_far hS hg8 (Nat.le_succ _)
              go_wp2_with fail
              refine (HT.out _ hR8).mono ?_
              rintro e w9 ⟨rfl, hR9, hg9⟩
              have hB9 := hB8.grown hg9 (fun e => by injection e with e; omega)
              have hZ9 := hZ8.grown hg9 (by simp)
              have ho9 := own_far' ho8 hg9 (by omega)
              have hS9 : Since w w9 := since_far hS8 hg9 (Nat.le_succ _)
              have y3 : w9.cell? ⟨w1.heap.size, 3, none⟩ = some (.string ⟨#[]⟩) := hB9.cell 3
              have yf := hB9.free
              have yl := hB9.lt
              clear c1 hlg hfg hlb hfb
              go_wp2_with fail
              go_meet
              exact ⟨(0, true, P, t9), sv, s10, b10, HPF.out, hR9.far (by show w.heap.size + 1 ≠ w1.heap.size; omega) _, hB9.set rfl, ownsRow_setCell_below ho9 (Nat.lt_succ_self _) _, hZ9.far (by show w.heap.size ≠ w1.heap.size; omega) _, hS9.setCell (by show w.heap.size ≤ w1.heap.size; omega) _, HLI.out, hPl, hone⟩
      · obtain ⟨b3, hb3⟩ : ∃ b3 : Bool, Hid (b3 = (b2 || decide (1 < q))) := ⟨(b2 || decide (1 < q)), rfl⟩
        rw [← hb3.out] at hPF
        obtain ⟨w5, hw5⟩ : ∃ w5, Hid ((w3.setCell ⟨w.heap.size + 1, 1, none⟩ (.int .i64 15)).setCell ⟨w1.heap.size, 1, none⟩ (.bool false) = w5) := ⟨_, rfl⟩
        have hR5 : RdF w5 (w.heap.size + 1) s2 b3 := by
          rw [hb3.out, ← hw5.out]
          rw [decide_eq_true hq, Bool.or_true]
          exact (hR3.set1 true).far (by show w.heap.size + 1 ≠ w1.heap.size; omega) _
        have hB5 : Cel w5 w1.heap.size (rsCells 0 false (.slice none 0 0) []) 32 := by
          rw [← hw5.out]
          exact (hB3.far (by show w1.heap.size ≠ w.heap.size + 1; omega) _).set rfl
        have hZ5 : Cel w5 w.heap.size (rsCells 0 false (.slice none 0 0) []) 32 := by
          rw [← hw5.out]
          exact (hZ3.far (by show w.heap.size ≠ w.heap.size + 1; omega) _).far (by show w.heap.size ≠ w1.heap.size; omega) _
        have hS5 : Since w w5 := by
          rw [← hw5.out]
          exact (hS3.setCell (Nat.le_succ _) _).setCell (by show w.heap.size ≤ w1.heap.size; omega) _
        clear hZ3 hB3 hR3 hS3 hb3
        have hq1 : ((q : Int) == 1) = false := by simp; omega
        have hq2 : decide ((1 : Int) < (q : Int)) = true := decide_eq_true (by omega)
        have hq3 : (q == 1) = false := by simp; omega
        rw [hq3] at hPF
        go_wp2_with fail
        rw [hw5.out]
        clear hw5 e1 e2 e3 e4 e5 e6
        have HN := Lib.hid (fun W hR => fnum_any s2 b3 (w.heap.size + 1) W (by omega) hR)
        obtain ⟨l3, n4⟩ := nmF_le s2 b3
        unfold NmPost at HN
        generalize nmF s2 b3 = N at *
        obtain ⟨n, s3, b4⟩ := N
        simp only at HN l3 n4 hPF
        refine (HN.out _ hR5).mono ?_
        rintro e w6 ⟨rfl, hR6, hg6⟩
        have hS6 : Since w w6 := since_far hS5 hg6 (Nat.le_succ _)
        have hZ6 := hZ5.grown hg6 (by simp)
        have hB6 := hB5.grown hg6 (fun e => by injection e with e; omega)
        obtain ⟨Q, hQ⟩ : ∃ Q, Hid (Q = atomsF n s3 b4) := ⟨_, rfl⟩
        rw [← hQ.out] at hPF
        have hL6 : Hid (RsLoop w w1.heap.size false (s.length + 1) Q n w6) := ⟨[], .slice none 0 0, s3, b4, hR6, hB6, World.ownsRow_nil _ _ _ _, hZ6, hS6, by simp, by rw [List.length_nil]; split <;> omega, by omega, hQ.out⟩
        clear hR5 hg6 hZ5 hB5 hS5 HN hR6 hS6 hZ6 hB6 hQ
        go_wp2_with fail
        go_loopw [7] (fun x wr => ∃ m : Nat, x = .int .i64 (m : Int) ∧ m ≤ n ∧ Hid (RsLoop w w1.heap.size false (s.length + 1) Q m wr)) (fun x _ => (intOf x).toNat)
        case atStart => exact ⟨n, rfl, Nat.le_refl _, hL6.out⟩
        case round =>
          clear hL6
          obtain ⟨m, rfl, hmn, hloop⟩ := hrel
          obtain ⟨P, sv, s', bb, hR, hB, how, hZ, hS, hli, hlim, hsl, hQ⟩ := hloop.out
          clear hloop
          have HQ := Lib.hid hQ
          have HLI := Lib.hid hli
          clear hQ hli
          have c1 := hR.c1
          have hlg := hR.lt
          have hfg := hR.free
          have hlb := hB.lt
          have hfb := hB.free
          by_cases hgo : 0 < m ∧ bb = false
          · obtain ⟨hm0, rfl⟩ := hgo
            simp only [Bool.false_eq_true, if_false] at c1 hlim
            obtain ⟨m', rfl⟩ : ∃ m', m = m' + 1 := ⟨m - 1, by omega⟩
            have HAT := Lib.hid (fun W hR hE => fatom_any s' false (w.heap.size + 1) W (by omega) hR hE)
            have hla := atomF_le s' false
            have hless := @atomF_less s'
            have hlt2 := atomF_light s' false
            obtain ⟨R, hRd⟩ : ∃ R, Hid (R = atomF s' false) := ⟨_, rfl⟩
            have hQ2 : Hid (Q = ((P ++ [R.1]) ++ (atomsF m' R.2.1 R.2.2).1, (atomsF m' R.2.1 R.2.2).2)) := by
              show _ = _
              rw [HQ.out, atomsF_succ, ← hRd.out]; simp
            unfold AtPost at HAT
            rw [← hRd.out] at HAT hla hless hlt2
            obtain ⟨⟨x_s, x_p, x_n, ⟨x_v0, x_l0⟩, ⟨x_v1, x_l1⟩, ⟨x_v2, x_l2⟩, ⟨x_v3, x_l3⟩⟩, s8, b8⟩ := R
            simp only [atmC] at HAT hla hless hlt2 hQ2
            have hRd2 : RdF wr.drew (w.heap.size + 1) s' false := hR
            have hBd : Cel wr.drew w1.heap.size (rsCells 0 false sv []) 32 := hB
            have hZd : Cel wr.drew w.heap.size (rsCells 0 false (.slice none 0 0) []) 32 := hZ
            have howd : wr.drew.ownsRow (w1.heap.size + 1) 26 11 sv P.length (rowA P) := how
            have hSd : Since w wr.drew := hS.drew
            have hEd := HE.out.next hSd
            have z2 : wr.cell? ⟨w1.heap.size, 2, none⟩ = some sv := hB.cell 2
            have hgb : w.heap.size + 1 < w1.heap.size := hl1
            have hone : Hid (∀ u ∈ (#[.string ⟨x_s.toArray⟩, .string ⟨x_p.toArray⟩, .int .i64 x_n, .bool x_v0, .string ⟨x_l0.toArray⟩, .bool x_v1, .string ⟨x_l1.toArray⟩, .bool x_v2, .string ⟨x_l2.toArray⟩, .bool x_v3, .string ⟨x_l3.toArray⟩] : Array Value).toList, u.oneCell' = true) := by show ∀ u ∈ _, _; simp [Value.oneCell']
            have hPl : P.length ≤ 900001 := by omega
            clear HQ hRd hR hB hZ how hS
            go_wp2_with fail
            go_region_law (first
              | (go_simp; go_at_call 26; (with_reducible refine Calls.mono (HAT.out _ ?_ ?_) ?_); exact hRd2; exact hEd; rintro e w8 ⟨rfl, hR8, hg8⟩; have hB8 := hBd.grown hg8 (fun e => by injection e with e; omega); have hZ8 := hZd.grown hg8 (by simp); have ho8 := own_far' howd hg8 (by omega); have hS8 := since_far hSd hg8 (Nat.le_succ _); have y2 : w8.cell? ⟨w1.heap.size, 2, none⟩ = some sv := hB8.cell 2; have hz8 : w1.heap.size < w8.heap.size := hB8.lt; have y2a : (w8.alloc (.cells #[.string ⟨x_s.toArray⟩, .string ⟨x_p.toArray⟩, .int .i64 x_n, .bool x_v0, .string ⟨x_l0.toArray⟩, .bool x_v1, .string ⟨x_l1.toArray⟩, .bool x_v2, .string ⟨x_l2.toArray⟩, .bool x_v3, .string ⟨x_l3.toArray⟩] 26)).cell? ⟨w1.heap.size, 2, none⟩ = some sv := Since.cell ((Since.refl _).alloc _) y2)
              | ((refine step_append_own rfl (.tmp 41) (.tmp 44) 30 rfl (w1.heap.size + 1) 26 i0 (.agg (atmC zeroAtm)) 11 136 Tryz.underlying30 HI.out.1 HI.out.2.1 HI.out.2.2.1 HI.out.2.2.2 rfl (by decide) sv P.length (rowA P) rfl (ho8.alloc _) ⟨w8.heap.size, 0, none⟩ 1 1 (#[.string ⟨x_s.toArray⟩, .string ⟨x_p.toArray⟩, .int .i64 x_n, .bool x_v0, .string ⟨x_l0.toArray⟩, .bool x_v1, .string ⟨x_l1.toArray⟩, .bool x_v2, .string ⟨x_l2.toArray⟩, .bool x_v3, .string ⟨x_l3.toArray⟩] : Array Value).toList rfl rfl (cellsN _ _ _ _ rfl) hone.out (by unfold maxLen; omega) (by omega) (by simp; omega) ?_); intro v9 w9 hown9 hg9 _; have hx9 := looptail (x := ((x_s, x_p, x_n, (x_v0, x_l0), (x_v1, x_l1), (x_v2, x_l2), (x_v3, x_l3)) : Atm)) hB8 hR8 ho8 hZ8 hS8 hgb hg9 hown9; clear hown9 hg9; obtain ⟨g9, c9, rfl, yb, yf, yl, hX9⟩ := hx9))
            all_goals
              go_wp2_with fail
              have hX := hX9.out _ rfl
              have hXH := Lib.hid hX
              clear hX9 hX
              go_roundw
              case rel =>
                refine ⟨m', by go_num, by omega, ⟨P ++ [((x_s, x_p, x_n, (x_v0, x_l0), (x_v1, x_l1), (x_v2, x_l2), (x_v3, x_l3)) : Atm)], .slice (some ⟨g9, 0, none⟩) (P.length + 1) c9, s8, b8, hXH.out.1, hXH.out.2.1, hXH.out.2.2.1, hXH.out.2.2.2.1, hXH.out.2.2.2.2, ?_, ?_, by omega, hQ2.out⟩⟩
                · intro y hy
                  rcases List.mem_append.1 hy with hy | hy
                  · exact HLI.out y hy
                  · simp only [List.mem_cons, List.not_mem_nil, or_false] at hy
                    rw [hy]; exact hlt2
                · rw [List.length_append, List.length_singleton]
                  cases b8
                  · have := hless rfl
                    simp only [Bool.false_eq_true, if_false]; omega
                  · simp only [if_true]; omega
              case measure => simp [intOf]
          · have hQe : Q = (P, s', bb) := by
              rw [HQ.out]
              by_cases hm0 : 0 < m
              · obtain rfl : bb = true := by
                  cases bb
                  · exact absurd ⟨hm0, rfl⟩ hgo
                  · rfl
                rw [atomsF_bad]; simp
              · rw [show m = 0 by omega, atomsF]; simp
            rw [hQe] at hPF
            simp only at hPF
            have HN7 := Lib.hid (fun W hR => fnum_any s' bb (w.heap.size + 1) W (by omega) hR)
            obtain ⟨l7, n7⟩ := nmF_le s' bb
            unfold NmPost at HN7
            generalize nmF s' bb = N7 at *
            obtain ⟨n9, s9, b9⟩ := N7
            simp only at HN7 l7 n7 hPF
            have HT := Lib.hid (fun W hR => ftake_any s9 b9 n9 (w.heap.size + 1) W hR)
            unfold TakePost at HT
            generalize takeF s9 b9 n9 = T9 at *
            obtain ⟨t9, s10, b10⟩ := T9
            simp only at HT hPF
            have HPF := Lib.hid hPF
            have hone : sv.oneCell' = true := by
              rcases Joins.ownsRow_forms how with ⟨rfl, _⟩ | ⟨_, _, rfl⟩ <;> simp [Value.oneCell']
            have hPl : P.length ≤ 1000000 := by
              have h : P.length ≤ s.length + 1 := Nat.le_trans (Nat.le_add_right _ _) hlim
              omega
            have HR0 := Lib.hid hR
            have HB0 := Lib.hid hB
            have HZ0 := Lib.hid hZ
            have HO0 := Lib.hid how
            clear hPF HQ hQe hR hB hZ how hlim
            by_cases hm0 : 0 < m
            · obtain rfl : bb = true := by
                cases bb
                · exact absurd ⟨hm0, rfl⟩ hgo
                · rfl
              simp only [if_true] at c1
              clear hgo
              go_wp2_with fail
              refine (HN7.out _ HR0.out).mono ?_
              rintro e w8 ⟨rfl, hR8, hg8⟩
              have hB8 := HB0.out.grown hg8 (fun e => by injection e with e; omega)
              have hZ8 := HZ0.out.grown hg8 (by simp)
              have ho8 := own_far' HO0.out hg8 (by omega)
              have hS8 : Since w w8 := since_far hS hg8 (Nat.le_succ _)
              go_wp2_with fail
              refine (HT.out _ hR8).mono ?_
              rintro e w9 ⟨rfl, hR9, hg9⟩
              have hB9 := hB8.grown hg9 (fun e => by injection e with e; omega)
              have hZ9 := hZ8.grown hg9 (by simp)
              have ho9 := own_far' ho8 hg9 (by omega)
              have hS9 : Since w w9 := since_far hS8 hg9 (Nat.le_succ _)
              have y3 : w9.cell? ⟨w1.heap.size, 3, none⟩ = some (.string ⟨#[]⟩) := hB9.cell 3
              have yf := hB9.free
              have yl := hB9.lt
              clear c1 hlg hfg hlb hfb
              go_wp2_with fail
              go_meet
              exact ⟨(0, false, P, t9), sv, s10, b10, HPF.out, hR9.far (by show w.heap.size + 1 ≠ w1.heap.size; omega) _, hB9.set rfl, ownsRow_setCell_below ho9 (Nat.lt_succ_self _) _, hZ9.far (by show w.heap.size ≠ w1.heap.size; omega) _, hS9.setCell (by show w.heap.size ≤ w1.heap.size; omega) _, HLI.out, hPl, hone⟩
            · obtain rfl : m = 0 := by omega
              clear hgo hm0
              go_wp2_with fail
              refine (HN7.out _ HR0.out).mono ?_
              rintro e w8 ⟨rfl, hR8, hg8⟩
              have hB8 := HB0.out.grown hg8 (fun e => by injection e with e; omega)
              have hZ8 := HZ0.out.grown hg8 (by simp)
              have ho8 := own_far' HO0.out hg8 (by omega)
              have hS8 : Since w w8 := since_far hS hg8 (Nat.le_succ _)
              go_wp2_with fail
              refine (HT.out _ hR8).mono ?_
              rintro e w9 ⟨rfl, hR9, hg9⟩
              have hB9 := hB8.grown hg9 (fun e => by injection e with e; omega)
              have hZ9 := hZ8.grown hg9 (by simp)
              have ho9 := own_far' ho8 hg9 (by omega)
              have hS9 : Since w w9 := since_far hS8 hg9 (Nat.le_succ _)
              have y3 : w9.cell? ⟨w1.heap.size, 3, none⟩ = some (.string ⟨#[]⟩) := hB9.cell 3
              have yf := hB9.free
              have yl := hB9.lt
              clear c1 hlg hfg hlb hfb
              go_wp2_with fail
              go_meet
              exact ⟨(0, false, P, t9), sv, s10, b10, HPF.out, hR9.far (by show w.heap.size + 1 ≠ w1.heap.size; omega) _, hB9.set rfl, ownsRow_setCell_below ho9 (Nat.lt_succ_self _) _, hZ9.far (by show w.heap.size ≠ w1.heap.size; omega) _, hS9.setCell (by show w.heap.size ≤ w1.heap.size; omega) _, HLI.out, hPl, hone⟩
    · have hk0 : ((k : Int) == 0) = false := by simp; omega
      have hP2 : Hid (partsF s = (((k : Int), false, [], []), s1, b1)) := by show _ = _; rw [hPF.out, if_neg h0]
      clear hPF
      go_wp2_with fail
      go_meet
      exact ⟨_, .slice none 0 0, s1, b1, hP2.out, hR2, hB1, World.ownsRow_nil _ _ _ _, hZ2, hS2, by simp, by simp, by simp [Value.oneCell']⟩
  case rest =>
    obtain ⟨⟨code, ch, L, ct⟩, sv, s', bb, hP, hR, hB, how, hZ, hS, hli, hlen, hone1⟩ := hcut
    simp only at hB how hli hlen
    have hlb := hB.lt
    have hlg : w.heap.size + 1 < w1.heap.size := hl1
    have hM0 : readRs s = if bb || (!s'.isEmpty || !mayRs (code, ch, L, ct)) then none else some (code, ch, L, ct) := by unfold readRs; rw [hP]
    obtain ⟨b, hb⟩ : ∃ b : Bool, Hid (b = (bb || !s'.isEmpty)) := ⟨(bb || !s'.isEmpty), rfl⟩
    have hM1 : readRs s = if b || !mayRs (code, ch, L, ct) then none else some (code, ch, L, ct) := by rw [hM0, hb.out, Bool.or_assoc]
    have HEN := Lib.hid (fend_any s' bb (w.heap.size + 1) wc hR)
    unfold EndPost at HEN
    rw [← hb.out] at HEN
    have HM := Lib.hid (fun W hE hv => mayRs_any code ch sv L ct W hE hv (fun x hx => light_fits (hli x hx)) (fun x hx => light_light (hli x hx)) hlen)
    generalize mayRs (code, ch, L, ct) = M at *
    have HPN : Hid (∀ W, (b || !M) = true → Since w W → RsPost s w (.returned (.tuple #[.agg #[.int .i64 0, .bool false, .slice none 0 0, .string ⟨#[]⟩], .int .i64 15])) W) := by
      intro W h hs
      have hn : readRs s = none := by rw [hM1, h]; rfl
      exact ⟨.slice none 0 0, by rw [hn]; rfl, by rw [hn]; exact atmRow_nil _, hs⟩
    have HPY : Hid (∀ W, (b || !M) = false → AtmRow W sv L → Since w W → RsPost s w (.returned (.tuple #[.agg #[.int .i64 code, .bool ch, sv, .string ⟨ct.toArray⟩], .int .i64 0])) W) := by
      intro W h hr hs
      have hn : readRs s = some (code, ch, L, ct) := by rw [hM1, h]; rfl
      exact ⟨sv, by rw [hn]; rfl, by rw [hn]; exact hr, hs⟩
    have HB := Lib.hid hB
    have HZ := Lib.hid hZ
    have HO1 := Lib.hid how
    clear hP hM0 hM1 hb hli hlen hB hZ how hR hB1 hZ2 hR2 hS2 hA1 hS1 hPF l1 k256
    go_wp2_with fail
    refine HEN.out.mono ?_
    rintro e w2 ⟨rfl, hR2, hg2⟩
    have hS2 : Since w w2 := since_far hS hg2 (Nat.le_succ _)
    have hB2 : Cel w2 w1.heap.size #[.int .i64 code, .bool ch, sv, .string ⟨ct.toArray⟩] 32 := HB.out.grown hg2 (fun e => by injection e with e; omega)
    have hZ2 : Cel w2 w.heap.size #[.int .i64 0, .bool false, .slice none 0 0, .string ⟨#[]⟩] 32 := HZ.out.grown hg2 (by simp)
    have ho2 := own_far' HO1.out hg2 (by omega)
    have hrow2 := atmRow_own ho2
    have hl2 := hR2.lt
    have c1 := hR2.c1
    have HZ2 : Hid (w2.heap[w.heap.size]? = some (.cells #[.int .i64 0, .bool false, .slice none 0 0, .string ⟨#[]⟩] 32 (0, 0))) := hZ2
    have hself : Hid (w2.setRow w.heap.size #[.int .i64 0, .bool false, .slice none 0 0, .string ⟨#[]⟩] = w2) := setRow_self _ w.heap.size _ _ _ HZ2.out
    have honeZ : Hid ((#[.int .i64 0, .bool false, .slice none 0 0, .string ⟨#[]⟩] : Array Value).all (·.oneCell') = true) := by show _ = _; simp [Value.oneCell']
    have honeX : Hid ((#[.int .i64 code, .bool ch, sv, .string ⟨ct.toArray⟩] : Array Value).all (·.oneCell') = true) := by show _ = _; simp only [List.all_toArray, List.all_cons, List.all_nil, hone1, Bool.and_true]; rfl
    have HB2 := Lib.hid hB2
    have HROW := Lib.hid hrow2
    have HO2 := Lib.hid ho2
    clear hB2 hZ2 ho2 hrow2 hg2 HB HZ HO1 HEN hone1 hS
    cases b
    case true =>
      simp only [if_true] at c1
      clear HM
      go_wp2_with ((refine wpList_store_row rfl 32 (.tmp 2) (.tmp 64) rfl w.heap.size #[.int .i64 0, .bool false, .slice none 0 0, .string ⟨#[]⟩] rfl rfl 32 _ HZ2.out rspInfo rfl honeZ.out ?_); rw [hself.out])
      have hZZ : Cel w2 w.heap.size #[.int .i64 0, .bool false, .slice none 0 0, .string ⟨#[]⟩] 32 := HZ2.out
      have e0 : w2.cell? ⟨w.heap.size, 0, none⟩ = some (.int .i64 0) := hZZ.cell 0
      have e1 : w2.cell? ⟨w.heap.size, 1, none⟩ = some (.bool false) := hZZ.cell 1
      have e2 : w2.cell? ⟨w.heap.size, 2, none⟩ = some (.slice none 0 0) := hZZ.cell 2
      have e3 : w2.cell? ⟨w.heap.size, 3, none⟩ = some (.string ⟨#[]⟩) := hZZ.cell 3
      refine bodyPost_ret (v := .tuple #[.agg #[.int .i64 0, .bool false, .slice none 0 0, .string ⟨#[]⟩], .int .i64 15]) (by simp [results, Tryz.results13, go_sem, e0, e1, e2, e3]) rfl ?_
      exact HPN.out _ rfl hS2
    case false =>
      simp only [Bool.false_eq_true, if_false] at c1
      have d0 : w2.cell? ⟨w1.heap.size, 0, none⟩ = some (.int .i64 code) := HB2.out.cell 0
      have d1 : w2.cell? ⟨w1.heap.size, 1, none⟩ = some (.bool ch) := HB2.out.cell 1
      have d2 : w2.cell? ⟨w1.heap.size, 2, none⟩ = some sv := HB2.out.cell 2
      have d3 : w2.cell? ⟨w1.heap.size, 3, none⟩ = some (.string ⟨ct.toArray⟩) := HB2.out.cell 3
      have hE2 := HE.out.next hS2
      cases M
      · go_wp2_with fail
        refine (HM.out _ hE2 HROW.out).mono ?_
        rintro e w4 ⟨rfl, hb⟩
        have hY4 : Cel w4 w.heap.size #[.int .i64 0, .bool false, .slice none 0 0, .string ⟨#[]⟩] 32 := Cel.next (W := w2) HZ2.out hb
        have HY4 : Hid (w4.heap[w.heap.size]? = some (.cells #[.int .i64 0, .bool false, .slice none 0 0, .string ⟨#[]⟩] 32 (0, 0))) := hY4
        have hself4 : Hid (w4.setRow w.heap.size #[.int .i64 0, .bool false, .slice none 0 0, .string ⟨#[]⟩] = w4) := setRow_self _ w.heap.size _ _ _ HY4.out
        clear d0 d1 d2 d3 hY4 hself
        go_wp2_with ((refine wpList_store_row rfl 32 (.tmp 2) (.tmp 64) rfl w.heap.size #[.int .i64 0, .bool false, .slice none 0 0, .string ⟨#[]⟩] rfl rfl 32 _ HY4.out rspInfo rfl honeZ.out ?_); rw [hself4.out])
        have hZZ : Cel w4 w.heap.size #[.int .i64 0, .bool false, .slice none 0 0, .string ⟨#[]⟩] 32 := HY4.out
        have e0 : w4.cell? ⟨w.heap.size, 0, none⟩ = some (.int .i64 0) := hZZ.cell 0
        have e1 : w4.cell? ⟨w.heap.size, 1, none⟩ = some (.bool false) := hZZ.cell 1
        have e2 : w4.cell? ⟨w.heap.size, 2, none⟩ = some (.slice none 0 0) := hZZ.cell 2
        have e3 : w4.cell? ⟨w.heap.size, 3, none⟩ = some (.string ⟨#[]⟩) := hZZ.cell 3
        refine bodyPost_ret (v := .tuple #[.agg #[.int .i64 0, .bool false, .slice none 0 0, .string ⟨#[]⟩], .int .i64 15]) (by simp [results, Tryz.results13, go_sem, e0, e1, e2, e3]) rfl ?_
        exact HPN.out _ rfl (hS2.trans hb)
      · go_wp2_with fail
        refine (HM.out _ hE2 HROW.out).mono ?_
        rintro e w4 ⟨rfl, hb⟩
        have hY4 : Cel w4 w.heap.size #[.int .i64 0, .bool false, .slice none 0 0, .string ⟨#[]⟩] 32 := Cel.next (W := w2) HZ2.out hb
        have HY4 : Hid (w4.heap[w.heap.size]? = some (.cells #[.int .i64 0, .bool false, .slice none 0 0, .string ⟨#[]⟩] 32 (0, 0))) := hY4
        have HB4 : Hid (w4.heap[w1.heap.size]? = some (.cells #[.int .i64 code, .bool ch, sv, .string ⟨ct.toArray⟩] 32 (0, 0))) := HB2.out.next hb
        have hF4 := hY4.row #[.int .i64 code, .bool ch, sv, .string ⟨ct.toArray⟩]
        have HF4 := Lib.hid hF4
        have hS4 := since_row (hS2.trans hb) (Nat.le_refl _) #[.int .i64 code, .bool ch, sv, .string ⟨ct.toArray⟩]
        have hrow4 : AtmRow (w4.setRow w.heap.size #[.int .i64 code, .bool ch, sv, .string ⟨ct.toArray⟩]) sv L := atmRow_own (own_far' (own_far' HO2.out (gsince (World.grownBy.refl _ (some 0)) hb) (Nat.succ_pos _)) (grown_row w4 w.heap.size #[.int .i64 code, .bool ch, sv, .string ⟨ct.toArray⟩]) (by omega))
        have HR4 := Lib.hid hrow4
        clear d0 d1 d2 d3 hY4 hF4 hrow4
        go_wp2_with (first
          | (refine wpList_load_row rfl 32 (.tmp 5) rfl w1.heap.size rfl 32 #[.int .i64 code, .bool ch, sv, .string ⟨ct.toArray⟩] (0, 0) _ HB4.out Tryz.underlying32 rfl rspInfo ?_)
          | (refine wpList_store_row rfl 32 (.tmp 2) (.tmp 65) rfl w.heap.size #[.int .i64 code, .bool ch, sv, .string ⟨ct.toArray⟩] rfl rfl 32 _ HY4.out rspInfo rfl honeX.out ?_))
        have e0 : (w4.setRow w.heap.size #[.int .i64 code, .bool ch, sv, .string ⟨ct.toArray⟩]).cell? ⟨w.heap.size, 0, none⟩ = some (.int .i64 code) := HF4.out.cell 0
        have e1 : (w4.setRow w.heap.size #[.int .i64 code, .bool ch, sv, .string ⟨ct.toArray⟩]).cell? ⟨w.heap.size, 1, none⟩ = some (.bool ch) := HF4.out.cell 1
        have e2 : (w4.setRow w.heap.size #[.int .i64 code, .bool ch, sv, .string ⟨ct.toArray⟩]).cell? ⟨w.heap.size, 2, none⟩ = some sv := HF4.out.cell 2
        have e3 : (w4.setRow w.heap.size #[.int .i64 code, .bool ch, sv, .string ⟨ct.toArray⟩]).cell? ⟨w.heap.size, 3, none⟩ = some (.string ⟨ct.toArray⟩) := HF4.out.cell 3
        refine bodyPost_ret (v := .tuple #[.agg #[.int .i64 code, .bool ch, sv, .string ⟨ct.toArray⟩], .int .i64 0]) (by simp [results, Tryz.results13, go_sem, e0, e1, e2, e3]) rfl ?_
        exact HPY.out _ rfl HR4.out hS4
end Go.Proofs.YtkdeokgkjmboeaaGreatDoor
