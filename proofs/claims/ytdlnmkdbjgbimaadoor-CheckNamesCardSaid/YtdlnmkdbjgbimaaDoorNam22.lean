/- CheckNames: the walk. -/
import Derived.Test.YtdlnmkdbjgbimaaDoorSameI
namespace Go.Proofs.YtdlnmkdbjgbimaaDoor
open Go.RowKit

def tinyD : Atm := (([97], [112], 1, (false, [100]), (false, []), (false, []), (false, [])) : Atm)
def tinyQ : Atm := (([98], [113], 1, (false, [100]), (false, []), (false, []), (false, [])) : Atm)
def tinyO : Cls := ((([97], [112], 1, (true, [88]), (false, []), (false, []), (false, [])) : Atm), [])
theorem nm_1 : checkS tinyC tinyF tinyS [] = (1, 15) := by kernel_rfl
theorem nm_2 : checkS tinyC tinyF tinyS [tinyG, tinyD] = (1, 13) := by kernel_rfl
theorem nm_3 : soundS tinyC tinyF (tinyS ++ [tinyS[0]]) = (2, 15) := by kernel_rfl
theorem nm_4 : soundS tinyC tinyF [tinyS[0], (tinyG, 0, [1])] = (1, 15) := by kernel_rfl
theorem nm_5 : soundS tinyC tinyF [tinyS[0], (tinyG, 1, [0])] = (1, 15) := by kernel_rfl
theorem nm_6 : soundS [tinyO] tinyF tinyS = (0, 2) := by kernel_rfl
theorem nm_7 : checkS tinyC (tinyF ++ [tinyQ]) (tinyS ++ [(tinyQ, -1, [])]) [tinyG] = (2, 15) := by kernel_rfl
theorem nm_8 : accB tinyC tinyF tinyS tinyG = true := by kernel_rfl
theorem nm_9 : accB tinyC [] tinyS tinyG = false := by kernel_rfl
theorem nm_10 : accB tinyC tinyF tinyS tinyD = false := by kernel_rfl
theorem nm_11 : citedS tinyS = [1, 0] := by kernel_rfl
theorem nm_12 : citedS [] = [] := by kernel_rfl
theorem fits_D : FitsN tinyD := fits_lit (by kernel_rfl)
theorem fits_G : FitsN tinyG := fits_lit (by kernel_rfl)
theorem fits_Q : FitsN tinyQ := fits_lit (by kernel_rfl)
theorem fits_O : ∀ c ∈ [tinyO], FitsC c := by
  intro c hc
  obtain rfl := List.mem_singleton.1 hc
  exact ⟨fits_lit (by kernel_rfl), fun a h => by cases h⟩
theorem fits_snoc {L : List Stp} {s : Stp} (h : ∀ t ∈ L, FitsN t.1 ∧ t.2.2.length ≤ 100000) (hs : FitsN s.1 ∧ s.2.2.length ≤ 100000) : ∀ t ∈ L ++ [s], FitsN t.1 ∧ t.2.2.length ≤ 100000 := by
  intro t ht
  rcases List.mem_append.1 ht with ht | ht
  · exact h t ht
  · obtain rfl := List.mem_singleton.1 ht; exact hs
theorem fits_S0 : FitsN (tinyS[0]).1 ∧ (tinyS[0]).2.2.length ≤ 100000 := tiny_fitsS _ (by decide)
theorem fits_two {a b : Stp} (ha : FitsN a.1 ∧ a.2.2.length ≤ 100000) (hb : FitsN b.1 ∧ b.2.2.length ≤ 100000) : ∀ t ∈ [a, b], FitsN t.1 ∧ t.2.2.length ≤ 100000 := fits_snoc (L := [a]) (fun t h => by obtain rfl := List.mem_singleton.1 h; exact ha) hb
theorem ksame_eq (v1 v2 : Value) (L : List Int) (w : World) (h1 : IRow w v1 L) (h2 : IRow w v2 L) (hm : L.length ≤ 1000000) :
    Calls Tryd.prog 19 #[v1, v2] w fun e w' => e = .returned (.bool true) ∧ Since w w' :=
  (ksame_int v1 v2 L L w h1 h2 hm hm).mono fun e w' ⟨h, m, hm⟩ => ⟨by rw [h, decide_eq_true rfl], hm ▸ (Since.refl _).drewN m⟩
theorem rrow_one1 (W : World) : RRow (W.alloc (.cells #[.string ⟨#[97]⟩, .string ⟨#[112]⟩, .int .i64 1, .bool true, .string ⟨#[88]⟩, .bool false, .string ⟨#[]⟩, .bool false, .string ⟨#[]⟩, .bool false, .string ⟨#[]⟩, .slice none 0 0] 31)) (.slice (some ⟨W.heap.size, 0, none⟩) 1 1) [tinyO] := by
  have hC : Cel (W.alloc (.cells #[.string ⟨#[97]⟩, .string ⟨#[112]⟩, .int .i64 1, .bool true, .string ⟨#[88]⟩, .bool false, .string ⟨#[]⟩, .bool false, .string ⟨#[]⟩, .bool false, .string ⟨#[]⟩, .slice none 0 0] 31)) W.heap.size #[.string ⟨#[97]⟩, .string ⟨#[112]⟩, .int .i64 1, .bool true, .string ⟨#[88]⟩, .bool false, .string ⟨#[]⟩, .bool false, .string ⟨#[]⟩, .bool false, .string ⟨#[]⟩, .slice none 0 0] 31 := heap_alloc_new W _
  refine ⟨_, _, rfl, Nat.le_refl _, fun _ => ⟨_, _, rfl, fun k hk => ?_⟩⟩
  obtain rfl : k = 0 := by have : k < 1 := hk; omega
  exact ⟨atat_lit hC.at 0 rfl, _, hC.cell 11, KRow.nil _ _⟩
set_option maxHeartbeats 0 in
set_option maxRecDepth 100000 in
theorem names22_any (w : World) (hE : Env w) : Calls Tryd.prog 4 #[] w fun e w' => e = .returned (.bool true) ∧ Since w w' := by
  obtain ⟨i2, hi, hz0, hz1, hz2⟩ := info_parts stpInfo
  have I2 := Lib.hid (And.intro hi (And.intro hz0 (And.intro hz1 hz2)))
  clear hi hz0 hz1 hz2
  obtain ⟨i5, hi, hz0, hz1, hz2⟩ := info_parts own_atm_info
  have I5 := Lib.hid (And.intro hi (And.intro hz0 (And.intro hz1 hz2)))
  clear hi hz0 hz1 hz2
  have HE0 := Lib.hid hE
  go_enter Tryd.func4, Tryd.ntmps4
  go_wp2_with fail
  refine (lives22_any _ hE).mono ?_
  rintro e w0 ⟨rfl, hb0⟩
  clear hE
  go_wp2_with fail
  refine (small22_any _).mono ?_
  rintro e w1 ⟨va, vf, vs, rfl, hC, hF, hT, hb⟩
  have hS : Since w (w1.alloc (.cells #[.string ⟨#[97]⟩, .string ⟨#[112]⟩, .int .i64 1, .bool false, .string ⟨#[99]⟩, .bool false, .string ⟨#[]⟩, .bool false, .string ⟨#[]⟩, .bool false, .string ⟨#[]⟩] 29)) := (hb0.trans hb).alloc _
  have hb1 : Since w1 (w1.alloc (.cells #[.string ⟨#[97]⟩, .string ⟨#[112]⟩, .int .i64 1, .bool false, .string ⟨#[99]⟩, .bool false, .string ⟨#[]⟩, .bool false, .string ⟨#[]⟩, .bool false, .string ⟨#[]⟩] 29)) := (Since.refl _).alloc _
  have h4 : At (w1.alloc (.cells #[.string ⟨#[97]⟩, .string ⟨#[112]⟩, .int .i64 1, .bool false, .string ⟨#[99]⟩, .bool false, .string ⟨#[]⟩, .bool false, .string ⟨#[]⟩, .bool false, .string ⟨#[]⟩] 29)) w1.heap.size 0 #[.string ⟨#[97]⟩, .string ⟨#[112]⟩, .int .i64 1, .bool false, .string ⟨#[99]⟩, .bool false, .string ⟨#[]⟩, .bool false, .string ⟨#[]⟩, .bool false, .string ⟨#[]⟩] := Cel.at (heap_alloc_new w1 _)
  have HC := Lib.hid (rnext hC hb1)
  have HF := Lib.hid (anext hF hb1)
  have HT := Lib.hid (snext hT hb1)
  have HE := Lib.hid (HE0.out.next hS)
  clear hb hb0 hb1 hC hF hT HE0
  go_upto_region 4 with (fail)
  generalize hw2 : w1.alloc (.cells #[.string ⟨#[97]⟩, .string ⟨#[112]⟩, .int .i64 1, .bool false, .string ⟨#[99]⟩, .bool false, .string ⟨#[]⟩, .bool false, .string ⟨#[]⟩, .bool false, .string ⟨#[]⟩] 29) = w2 at *
  generalize hg4 : w1.heap.size = g4 at *
  clear hw2 hg4
  obtain ⟨bs, os, rfl, hcs, hat⟩ := HT.out.get (by decide)
  obtain ⟨ua, uc, kS, kU⟩ := stp_at (hat 0 (by decide))
  have kA : At w2 bs (os + 0 * 13) #[.string ⟨#[98]⟩, .string ⟨#[113]⟩, .int .i64 1, .bool false, .string ⟨#[99]⟩, .bool false, .string ⟨#[]⟩, .bool false, .string ⟨#[]⟩, .bool false, .string ⟨#[]⟩, .int .i64 (-1), .slice ua 0 uc] := kS
  have HKU := Lib.hid kU
  clear hat kS kU hcs
  have HCHK : Hid (∀ W (h : Since w2 W) fv fc (F : List Atm) sv sc T gv gc G, ARow W (.slice fv F.length fc) F → SRow W (.slice sv T.length sc) T → ARow W (.slice gv G.length gc) G → F.length ≤ 10 → T.length ≤ 10 → G.length ≤ 10 → (∀ a ∈ F, FitsN a) → (∀ a ∈ G, FitsN a) → (∀ t ∈ T, FitsN t.1 ∧ t.2.2.length ≤ 100000) → Calls Tryd.prog 15 #[.slice va tinyC.length 1, .slice fv F.length fc, .slice sv T.length sc, .slice gv G.length gc] W fun e w' => e = .returned (.tuple #[.int .i64 (checkS tinyC F T G).1, .int .i64 (checkS tinyC F T G).2]) ∧ Since W w') :=
    fun W h fv fc F sv sc T gv gc G h1 h2 h3 l1 l2 l3 f1 f2 f3 => kcheck_any va 1 tinyC fv fc F sv sc T gv gc G W (rnext HC.out h) h1 h2 h3 (by decide) (by omega) (by omega) (by omega) tiny_lenC tiny_fitsC f1 f2 f3 (HE.out.next h)
  have HSND : Hid (∀ W (h : Since w2 W) sv sc T, SRow W (.slice sv T.length sc) T → T.length ≤ 10 → (∀ t ∈ T, FitsN t.1 ∧ t.2.2.length ≤ 100000) → Calls Tryd.prog 10 #[.slice va tinyC.length 1, .slice vf tinyF.length 1, .slice sv T.length sc] W fun e w' => e = .returned (.tuple #[.int .i64 (soundS tinyC tinyF T).1, .int .i64 (soundS tinyC tinyF T).2]) ∧ Since W w') :=
    fun W h sv sc T h1 l1 f1 => ksound_main va 1 tinyC vf 1 tinyF sv sc T W (rnext HC.out h) (anext HF.out h) h1 (by decide) (by decide) (by omega) tiny_lenC tiny_fitsC tiny_fitsF f1 (HE.out.next h)
  have hS0 := Since.refl w2
  have H1 := HCHK.out w2 hS0 vf 1 tinyF (some ⟨bs, os, none⟩) 2 tinyS none 0 [] HF.out HT.out (KRow.nil _ _) (by decide) (by decide) (by decide) tiny_fitsF (fun _ h => by cases h) tiny_fitsS
  rw [nm_1] at H1
  have H1h := Lib.hid H1
  clear H1 hS0
  go_wp2_with fail
  refine H1h.out.mono ?_
  rintro e w3 ⟨rfl, hS3⟩
  clear H1h
  go_upto_region 5 with (fail)
  have ha0 : Since w2 w3.drew := (hS3).drew
  refine hx_begin (S := fun W => Since w2 W) (by kernel_rfl) ha0 (by kernel_rfl) (fun _ _ _ _ _ h => h) (fun hns hQ => ?_)
  refine hx_take (i := 0) (oi := _) (v := .slice va tinyC.length 1) rfl rfl hns (by kernel_rfl) (by kernel_rfl) hQ (by kernel_rfl) (fun _ _ => by kernel_rfl) ha0 ?_
  refine hx_take (i := 1) (oi := _) (v := .slice vf tinyF.length 1) rfl rfl hns (by kernel_rfl) (by kernel_rfl) hQ (by kernel_rfl) (fun _ _ => by kernel_rfl) ha0 ?_
  refine hx_take (i := 2) (oi := _) (v := .slice (some ⟨bs, os, none⟩) tinyS.length 2) rfl rfl hns (by kernel_rfl) (by kernel_rfl) hQ (by kernel_rfl) (fun _ _ => by kernel_rfl) ha0 ?_
  refine hx_take (i := 3) (oi := _) (v := .agg #[.string ⟨#[97]⟩, .string ⟨#[112]⟩, .int .i64 1, .bool false, .string ⟨#[99]⟩, .bool false, .string ⟨#[]⟩, .bool false, .string ⟨#[]⟩, .bool false, .string ⟨#[]⟩]) rfl rfl hns (by kernel_rfl) (by kernel_rfl) hQ (by kernel_rfl) (fun W hW => ld_at rfl (by kernel_rfl) (by kernel_rfl) (by kernel_rfl) W (h4.next hW)) ha0 ?_
  refine hx_call (i := 4) (oi := _) 16 #[.string ⟨#[97]⟩, .string ⟨#[112]⟩, .string ⟨#[100]⟩] rfl rfl (by kernel_rfl) (by kernel_rfl) (by kernel_rfl) (at_any [97] [112] [100] w3.drew) ?_
  rintro e wx21 ⟨rfl, hb⟩
  have ha1 : Since w2 wx21 := ha0.trans hb
  clear hb
  refine ⟨_, rfl, ha1, ?_⟩
  have ha2 : Since w2 (wx21.alloc (.cells #[.string ⟨#[97]⟩, .string ⟨#[112]⟩, .int .i64 1, .bool false, .string ⟨#[99]⟩, .bool false, .string ⟨#[]⟩, .bool false, .string ⟨#[]⟩, .bool false, .string ⟨#[]⟩, .string ⟨#[97]⟩, .string ⟨#[112]⟩, .int .i64 1, .bool false, .string ⟨#[100]⟩, .bool false, .string ⟨#[]⟩, .bool false, .string ⟨#[]⟩, .bool false, .string ⟨#[]⟩] 29)) := ha1.alloc _
  refine hx_make (i := 5) (oi := _) (.slice (some ⟨wx21.heap.size, 0, none⟩) 2 2) (wx21.alloc (.cells #[.string ⟨#[97]⟩, .string ⟨#[112]⟩, .int .i64 1, .bool false, .string ⟨#[99]⟩, .bool false, .string ⟨#[]⟩, .bool false, .string ⟨#[]⟩, .bool false, .string ⟨#[]⟩, .string ⟨#[97]⟩, .string ⟨#[112]⟩, .int .i64 1, .bool false, .string ⟨#[100]⟩, .bool false, .string ⟨#[]⟩, .bool false, .string ⟨#[]⟩, .bool false, .string ⟨#[]⟩] 29)) rfl rfl (by kernel_rfl) (by kernel_rfl) (by kernel_rfl) ha2 ?_
  have hBB : Cel (wx21.alloc (.cells #[.string ⟨#[97]⟩, .string ⟨#[112]⟩, .int .i64 1, .bool false, .string ⟨#[99]⟩, .bool false, .string ⟨#[]⟩, .bool false, .string ⟨#[]⟩, .bool false, .string ⟨#[]⟩, .string ⟨#[97]⟩, .string ⟨#[112]⟩, .int .i64 1, .bool false, .string ⟨#[100]⟩, .bool false, .string ⟨#[]⟩, .bool false, .string ⟨#[]⟩, .bool false, .string ⟨#[]⟩] 29)) wx21.heap.size #[.string ⟨#[97]⟩, .string ⟨#[112]⟩, .int .i64 1, .bool false, .string ⟨#[99]⟩, .bool false, .string ⟨#[]⟩, .bool false, .string ⟨#[]⟩, .bool false, .string ⟨#[]⟩, .string ⟨#[97]⟩, .string ⟨#[112]⟩, .int .i64 1, .bool false, .string ⟨#[100]⟩, .bool false, .string ⟨#[]⟩, .bool false, .string ⟨#[]⟩, .bool false, .string ⟨#[]⟩] 29 := heap_alloc_new _ _
  have hQ2 := HCHK.out _ ha2 vf 1 tinyF (some ⟨bs, os, none⟩) 2 tinyS _ 2 [tinyG, tinyD] (anext HF.out ha2) (snext HT.out ha2) (arow_cel hBB rfl (Nat.le_refl _)) (by decide) (by decide) (by decide) tiny_fitsF (fun a h => by rcases List.mem_cons.1 h with rfl | h; exact fits_G; obtain rfl := List.mem_singleton.1 h; exact fits_D) tiny_fitsS
  rw [nm_2] at hQ2
  clear hBB
  refine hx_call (i := 6) (oi := _) 15 #[.slice va tinyC.length 1, .slice vf tinyF.length 1, .slice (some ⟨bs, os, none⟩) tinyS.length 2, .slice (some ⟨wx21.heap.size, 0, none⟩) 2 2] rfl rfl (by kernel_rfl) (by kernel_rfl) (by kernel_rfl) (hQ2) ?_
  rintro e wx22 ⟨rfl, hb⟩
  have ha3 : Since w2 wx22 := ha2.trans hb
  clear hb
  refine ⟨_, rfl, ha3, ?_⟩
  refine hx_take (i := 7) (oi := _) (v := .tuple #[.int .i64 1, .int .i64 13]) rfl rfl hns (by kernel_rfl) (by kernel_rfl) hQ (by kernel_rfl) (fun _ _ => by kernel_rfl) ha3 ?_
  refine hx_take (i := 8) (oi := _) (v := .int .i64 1) rfl rfl hns (by kernel_rfl) (by kernel_rfl) hQ (by kernel_rfl) (fun _ _ => by kernel_rfl) ha3 ?_
  refine hx_take (i := 9) (oi := _) (v := .int .i64 13) rfl rfl hns (by kernel_rfl) (by kernel_rfl) hQ (by kernel_rfl) (fun _ _ => by kernel_rfl) ha3 ?_
  refine hx_take (i := 10) (oi := _) (v := .int .i64 1) rfl rfl hns (by kernel_rfl) (by kernel_rfl) hQ (by kernel_rfl) (fun _ _ => by kernel_rfl) ha3 ?_
  refine hx_take (i := 11) (oi := _) (v := .int .i64 13) rfl rfl hns (by kernel_rfl) (by kernel_rfl) hQ (by kernel_rfl) (fun _ _ => by kernel_rfl) ha3 ?_
  refine wpAnyH_done (by kernel_rfl) ?_ _
  clear hns hQ
  simp only [List.set_cons_zero, List.set_cons_succ]
  have hS5 := ha3
  go_upto_region 6 with (fail)
  go_cut [9, 10] from 47 to 59 (fun s r W => s = .int .i64 2 ∧ r = .int .i64 15 ∧ Since w2 W)
  case first =>
    have hb0 : Since w2 wx22.drew := (hS5).drew
    refine hx_begin (S := fun W => Since w2 W) (by kernel_rfl) hb0 (by kernel_rfl) (fun _ _ _ _ _ h => h) (fun hns hQ => ?_)
    refine hx_take (i := 0) (oi := _) (v := .slice va tinyC.length 1) rfl rfl hns (by kernel_rfl) (by kernel_rfl) hQ (by kernel_rfl) (fun _ _ => by kernel_rfl) hb0 ?_
    refine hx_take (i := 1) (oi := _) (v := .slice vf tinyF.length 1) rfl rfl hns (by kernel_rfl) (by kernel_rfl) hQ (by kernel_rfl) (fun _ _ => by kernel_rfl) hb0 ?_
    refine hx_take (i := 2) (oi := _) (v := .slice (some ⟨bs, os, none⟩) tinyS.length 2) rfl rfl hns (by kernel_rfl) (by kernel_rfl) hQ (by kernel_rfl) (fun _ _ => by kernel_rfl) hb0 ?_
    refine hx_take (i := 4) (oi := _) (v := .slice (some ⟨bs, os, none⟩) tinyS.length 2) rfl rfl hns (by kernel_rfl) (by kernel_rfl) hQ (by kernel_rfl) (fun _ _ => by kernel_rfl) hb0 ?_
    refine hx_take (i := 5) (oi := _) (v := .pointer (some ⟨bs, os + 0 * 13, none⟩)) rfl rfl hns (by kernel_rfl) (by kernel_rfl) hQ (by kernel_rfl) (fun W _ => ix_sl (n := tinyS.length) (c := 2) (K := 13) rfl (by kernel_rfl) (by kernel_rfl) (by kernel_rfl) rfl (by decide) W) hb0 ?_
    refine hx_take (i := 6) (oi := _) (v := .agg #[.string ⟨#[98]⟩, .string ⟨#[113]⟩, .int .i64 1, .bool false, .string ⟨#[99]⟩, .bool false, .string ⟨#[]⟩, .bool false, .string ⟨#[]⟩, .bool false, .string ⟨#[]⟩, .int .i64 (-1), .slice ua 0 uc]) rfl rfl hns (by kernel_rfl) (by kernel_rfl) hQ (by kernel_rfl) (fun W hW => ld_at rfl (by kernel_rfl) (by kernel_rfl) (by kernel_rfl) W (kA.next hW)) hb0 ?_
    refine hx_two_cv (i := 3) (j := 7) 11 #[.slice (some ⟨bs, os, none⟩) tinyS.length 2] (.slice (some ⟨wx22.drew.heap.size, 0, none⟩) 1 1) ((wx22.drew.alloc (.cells #[.string ⟨#[98]⟩, .string ⟨#[113]⟩, .int .i64 1, .bool false, .string ⟨#[99]⟩, .bool false, .string ⟨#[]⟩, .bool false, .string ⟨#[]⟩, .bool false, .string ⟨#[]⟩, .int .i64 (-1), .slice ua 0 uc] 41))) rfl rfl (by kernel_rfl) (by kernel_rfl) (by kernel_rfl) rfl (by kernel_rfl) (ownsteps_any _ tinyS _ (snext HT.out hb0) (by decide) (fun t h => by have := (tiny_fitsS t h).2; omega)) rfl (by kernel_rfl) (hb0.alloc _) ?_ ?_
    · rintro e wx31 ⟨vn, rfl, N, eN, hN, hb⟩
      have hb1 : Since w2 wx31 := hb0.trans hb
      replace hN := hN.base (hb0).size
      obtain ⟨un0, un1, rfl⟩ := stps_two eN
      obtain ⟨an, cn, rfl⟩ := own_slice hN.row
      clear hb
      refine ⟨_, rfl, hb1, ?_⟩
      have hb2 : Since w2 (wx31.alloc (.cells #[.string ⟨#[98]⟩, .string ⟨#[113]⟩, .int .i64 1, .bool false, .string ⟨#[99]⟩, .bool false, .string ⟨#[]⟩, .bool false, .string ⟨#[]⟩, .bool false, .string ⟨#[]⟩, .int .i64 (-1), .slice ua 0 uc] 41)) := hb1.alloc _
      replace hN := hN.next ((Since.refl wx31).alloc (.cells #[.string ⟨#[98]⟩, .string ⟨#[113]⟩, .int .i64 1, .bool false, .string ⟨#[99]⟩, .bool false, .string ⟨#[]⟩, .bool false, .string ⟨#[]⟩, .bool false, .string ⟨#[]⟩, .int .i64 (-1), .slice ua 0 uc] 41))
      refine hx_make (i := 7) (oi := _) (.slice (some ⟨wx31.heap.size, 0, none⟩) 1 1) (wx31.alloc (.cells #[.string ⟨#[98]⟩, .string ⟨#[113]⟩, .int .i64 1, .bool false, .string ⟨#[99]⟩, .bool false, .string ⟨#[]⟩, .bool false, .string ⟨#[]⟩, .bool false, .string ⟨#[]⟩, .int .i64 (-1), .slice ua 0 uc] 41)) rfl rfl (by kernel_rfl) (by kernel_rfl) (by kernel_rfl) hb2 ?_
      have hB1 : Cel (wx31.alloc (.cells #[.string ⟨#[98]⟩, .string ⟨#[113]⟩, .int .i64 1, .bool false, .string ⟨#[99]⟩, .bool false, .string ⟨#[]⟩, .bool false, .string ⟨#[]⟩, .bool false, .string ⟨#[]⟩, .int .i64 (-1), .slice ua 0 uc] 41)) wx31.heap.size #[.string ⟨#[98]⟩, .string ⟨#[113]⟩, .int .i64 1, .bool false, .string ⟨#[99]⟩, .bool false, .string ⟨#[]⟩, .bool false, .string ⟨#[]⟩, .bool false, .string ⟨#[]⟩, .int .i64 (-1), .slice ua 0 uc] 41 := heap_alloc_new _ _
      refine hx_append (i := 8) (oi := _) (.tmp 51) (.tmp 55) 24 w2.heap.size 41 i2 (.agg #[.string ByteArray.empty, .string ByteArray.empty, .int .i64 0, .bool false, .string ByteArray.empty, .bool false, .string ByteArray.empty, .bool false, .string ByteArray.empty, .bool false, .string ByteArray.empty, .int .i64 0, .slice none 0 0]) 13 168 (.slice an 2 cn) 2 _ _ (some ⟨wx31.heap.size, 0, none⟩) 1 1 (#[.string ⟨#[98]⟩, .string ⟨#[113]⟩, .int .i64 1, .bool false, .string ⟨#[99]⟩, .bool false, .string ⟨#[]⟩, .bool false, .string ⟨#[]⟩, .bool false, .string ⟨#[]⟩, .int .i64 (-1), .slice ua 0 uc] : Array Value).toList rfl rfl (by kernel_rfl) (by kernel_rfl) rfl Tryd.underlying24 I2.out.1 I2.out.2.1 I2.out.2.2.1 I2.out.2.2.2 rfl (by decide) (by kernel_rfl) hN.row (by kernel_rfl) (reads_cel hB1 rfl) (by simp [Value.oneCell']) (by decide) (by decide) (hb2).size ?_
      intro v8 w8 hown8 hg8 _
      have hb3 : Since w2 w8 := Below.grown hb2 hg8 (hb2).size (own_ge hN.row)
      have hSR : SRow w8 v8 (tinyS ++ [tinyS[0]]) := nests_plus (s := tinyS[0]) hN hown8 rfl hg8 (inext HKU.out hb3)
      clear hown8 hg8 hN hB1
      obtain ⟨a8, c8, rfl⟩ := hSR.slice
      refine ⟨hb3, ?_⟩
      have hQ3 := HSND.out _ hb3 _ _ (tinyS ++ [tinyS[0]]) hSR (by decide) (fits_snoc tiny_fitsS fits_S0)
      rw [nm_3] at hQ3
      refine hx_call (i := 9) (oi := _) 10 #[.slice va tinyC.length 1, .slice vf tinyF.length 1, .slice a8 3 c8] rfl rfl (by kernel_rfl) (by kernel_rfl) (by kernel_rfl) (hQ3) ?_
      rintro e wx32 ⟨rfl, hb⟩
      have hb4 : Since w2 wx32 := hb3.trans hb
      replace hSR := snext hSR hb
      clear hb
      refine ⟨_, rfl, hb4, ?_⟩
      refine hx_take (i := 10) (oi := _) (v := .tuple #[.int .i64 2, .int .i64 15]) rfl rfl hns (by kernel_rfl) (by kernel_rfl) hQ (by kernel_rfl) (fun _ _ => by kernel_rfl) hb4 ?_
      refine hx_take (i := 11) (oi := _) (v := .int .i64 2) rfl rfl hns (by kernel_rfl) (by kernel_rfl) hQ (by kernel_rfl) (fun _ _ => by kernel_rfl) hb4 ?_
      refine hx_take (i := 12) (oi := _) (v := .int .i64 15) rfl rfl hns (by kernel_rfl) (by kernel_rfl) hQ (by kernel_rfl) (fun _ _ => by kernel_rfl) hb4 ?_
      refine hx_take (i := 13) (oi := _) (v := .int .i64 2) rfl rfl hns (by kernel_rfl) (by kernel_rfl) hQ (by kernel_rfl) (fun _ _ => by kernel_rfl) hb4 ?_
      refine hx_take (i := 14) (oi := _) (v := .int .i64 15) rfl rfl hns (by kernel_rfl) (by kernel_rfl) hQ (by kernel_rfl) (fun _ _ => by kernel_rfl) hb4 ?_
      refine wpAnyH_done (by kernel_rfl) ?_ _
      clear hns hQ
      simp only [List.set_cons_zero, List.set_cons_succ]
      go_wp2_with fail
      go_meet
      case rel => exact ⟨rfl, rfl, hb4⟩
    · have hb1 : Since w2 (wx22.drew.alloc (.cells #[.string ⟨#[98]⟩, .string ⟨#[113]⟩, .int .i64 1, .bool false, .string ⟨#[99]⟩, .bool false, .string ⟨#[]⟩, .bool false, .string ⟨#[]⟩, .bool false, .string ⟨#[]⟩, .int .i64 (-1), .slice ua 0 uc] 41)) := hb0.alloc _
      have hB1 : Cel (wx22.drew.alloc (.cells #[.string ⟨#[98]⟩, .string ⟨#[113]⟩, .int .i64 1, .bool false, .string ⟨#[99]⟩, .bool false, .string ⟨#[]⟩, .bool false, .string ⟨#[]⟩, .bool false, .string ⟨#[]⟩, .int .i64 (-1), .slice ua 0 uc] 41)) wx22.drew.heap.size #[.string ⟨#[98]⟩, .string ⟨#[113]⟩, .int .i64 1, .bool false, .string ⟨#[99]⟩, .bool false, .string ⟨#[]⟩, .bool false, .string ⟨#[]⟩, .bool false, .string ⟨#[]⟩, .int .i64 (-1), .slice ua 0 uc] 41 := heap_alloc_new _ _
      refine hx_call (i := 3) (oi := _) 11 #[.slice (some ⟨bs, os, none⟩) tinyS.length 2] rfl rfl (by kernel_rfl) (by kernel_rfl) (by kernel_rfl) (ownsteps_any _ tinyS _ (snext HT.out hb1) (by decide) (fun t h => by have := (tiny_fitsS t h).2; omega)) ?_
      rintro e wx31 ⟨vn, rfl, N, eN, hN, hb⟩
      have hb2 : Since w2 wx31 := hb1.trans hb
      replace hB1 := hB1.next hb
      replace hN := hN.base (hb1).size
      obtain ⟨un0, un1, rfl⟩ := stps_two eN
      obtain ⟨an, cn, rfl⟩ := own_slice hN.row
      clear hb
      refine ⟨_, rfl, hb2, ?_⟩
      refine hx_append (i := 8) (oi := _) (.tmp 51) (.tmp 55) 24 w2.heap.size 41 i2 (.agg #[.string ByteArray.empty, .string ByteArray.empty, .int .i64 0, .bool false, .string ByteArray.empty, .bool false, .string ByteArray.empty, .bool false, .string ByteArray.empty, .bool false, .string ByteArray.empty, .int .i64 0, .slice none 0 0]) 13 168 (.slice an 2 cn) 2 _ _ (some ⟨wx22.drew.heap.size, 0, none⟩) 1 1 (#[.string ⟨#[98]⟩, .string ⟨#[113]⟩, .int .i64 1, .bool false, .string ⟨#[99]⟩, .bool false, .string ⟨#[]⟩, .bool false, .string ⟨#[]⟩, .bool false, .string ⟨#[]⟩, .int .i64 (-1), .slice ua 0 uc] : Array Value).toList rfl rfl (by kernel_rfl) (by kernel_rfl) rfl Tryd.underlying24 I2.out.1 I2.out.2.1 I2.out.2.2.1 I2.out.2.2.2 rfl (by decide) (by kernel_rfl) hN.row (by kernel_rfl) (reads_cel hB1 rfl) (by simp [Value.oneCell']) (by decide) (by decide) (hb2).size ?_
      intro v8 w8 hown8 hg8 _
      have hb3 : Since w2 w8 := Below.grown hb2 hg8 (hb2).size (own_ge hN.row)
      have hSR : SRow w8 v8 (tinyS ++ [tinyS[0]]) := nests_plus (s := tinyS[0]) hN hown8 rfl hg8 (inext HKU.out hb3)
      clear hown8 hg8 hN hB1
      obtain ⟨a8, c8, rfl⟩ := hSR.slice
      refine ⟨hb3, ?_⟩
      have hQ3 := HSND.out _ hb3 _ _ (tinyS ++ [tinyS[0]]) hSR (by decide) (fits_snoc tiny_fitsS fits_S0)
      rw [nm_3] at hQ3
      refine hx_call (i := 9) (oi := _) 10 #[.slice va tinyC.length 1, .slice vf tinyF.length 1, .slice a8 3 c8] rfl rfl (by kernel_rfl) (by kernel_rfl) (by kernel_rfl) (hQ3) ?_
      rintro e wx32 ⟨rfl, hb⟩
      have hb4 : Since w2 wx32 := hb3.trans hb
      replace hSR := snext hSR hb
      clear hb
      refine ⟨_, rfl, hb4, ?_⟩
      refine hx_take (i := 10) (oi := _) (v := .tuple #[.int .i64 2, .int .i64 15]) rfl rfl hns (by kernel_rfl) (by kernel_rfl) hQ (by kernel_rfl) (fun _ _ => by kernel_rfl) hb4 ?_
      refine hx_take (i := 11) (oi := _) (v := .int .i64 2) rfl rfl hns (by kernel_rfl) (by kernel_rfl) hQ (by kernel_rfl) (fun _ _ => by kernel_rfl) hb4 ?_
      refine hx_take (i := 12) (oi := _) (v := .int .i64 15) rfl rfl hns (by kernel_rfl) (by kernel_rfl) hQ (by kernel_rfl) (fun _ _ => by kernel_rfl) hb4 ?_
      refine hx_take (i := 13) (oi := _) (v := .int .i64 2) rfl rfl hns (by kernel_rfl) (by kernel_rfl) hQ (by kernel_rfl) (fun _ _ => by kernel_rfl) hb4 ?_
      refine hx_take (i := 14) (oi := _) (v := .int .i64 15) rfl rfl hns (by kernel_rfl) (by kernel_rfl) hQ (by kernel_rfl) (fun _ _ => by kernel_rfl) hb4 ?_
      refine wpAnyH_done (by kernel_rfl) ?_ _
      clear hns hQ
      simp only [List.set_cons_zero, List.set_cons_succ]
      go_wp2_with fail
      go_meet
      case rel => exact ⟨rfl, rfl, hb4⟩
  case rest =>
  obtain ⟨rfl, rfl, hS6⟩ := hcut
  go_wp2_with fail
  refine (ownsteps_any _ tinyS _ (snext HT.out hS6) (by decide) (fun t h => by have := (tiny_fitsS t h).2; omega)).mono ?_
  rintro e w7 ⟨v7, rfl, N7, e7, hN7, hb7⟩
  have hS7 := hS6.trans hb7
  have hB7 : w2.heap.size ≤ wc.heap.size := hS6.size
  obtain ⟨u0, u1, rfl⟩ := stps_two e7
  obtain ⟨g, c, g1, c1, rfl, hg0, hg1, l1, l2, l3, -, -, l6, -⟩ := late_any hN7
  have hS8 : Since w2 (w7.setCell ⟨g1, 0, none⟩ (.int .i64 1)) := hS7.setCell (p := ⟨g1, 0, none⟩) (Nat.le_trans hB7 hg1) _
  have H2 := HSND.out _ hS8 (some ⟨g, 0, none⟩) c [tinyS[0], (tinyG, 0, [1])] l6 (by decide) (fits_two fits_S0 ⟨fits_G, by decide⟩)
  rw [nm_4] at H2
  have H2h := Lib.hid H2
  clear H2 e7 hN7 hb7 hB7 hg0 hg1 l6 hS6
  go_wp2_with fail
  refine H2h.out.mono ?_
  rintro e w9 ⟨rfl, hb9⟩
  have hS9 := hS8.trans hb9
  clear H2h hb9 hS8 hS7 l1 l2 l3
  go_wp2_with fail
  refine (ownsteps_any _ tinyS _ (snext HT.out hS9) (by decide) (fun t h => by have := (tiny_fitsS t h).2; omega)).mono ?_
  rintro e w10 ⟨v10, rfl, N10, e10, hN10, hb10⟩
  have hS10 := hS9.trans hb10
  have hB10 : w2.heap.size ≤ w9.heap.size := hS9.size
  obtain ⟨u0, u1, rfl⟩ := stps_two e10
  obtain ⟨g, c, g1, c1, rfl, hg0, hg1, -, -, -, l4, l5, -, l7⟩ := late_any hN10
  have hS11 : Since w2 (w10.setCell ⟨g, 24, none⟩ (.int .i64 1)) := hS10.setCell (p := ⟨g, 24, none⟩) (Nat.le_trans hB10 hg0) _
  have H2 := HSND.out _ hS11 (some ⟨g, 0, none⟩) c [tinyS[0], (tinyG, 1, [0])] l7 (by decide) (fits_two fits_S0 ⟨fits_G, by decide⟩)
  rw [nm_5] at H2
  have H2h := Lib.hid H2
  clear H2 e10 hN10 hb10 hB10 hg0 hg1 l7 hS9
  go_wp2_with fail
  refine H2h.out.mono ?_
  rintro e w12 ⟨rfl, hb12⟩
  have hS12 := hS11.trans hb12
  clear H2h hb12 hS11 hS10 l4 l5
  go_wp2_with fail
  refine (of_any [97] [112] [88] _).mono ?_
  rintro e w13 ⟨rfl, hb13⟩
  have hS13 := hS12.trans hb13
  have hSa := hS13.alloc (.cells #[.string ⟨#[97]⟩, .string ⟨#[112]⟩, .int .i64 1, .bool true, .string ⟨#[88]⟩, .bool false, .string ⟨#[]⟩, .bool false, .string ⟨#[]⟩, .bool false, .string ⟨#[]⟩, .slice none 0 0] 31)
  have H2 := ksound_main (some ⟨w13.heap.size, 0, none⟩) 1 [tinyO] vf 1 tinyF (some ⟨bs, os, none⟩) 2 tinyS _ (rrow_one1 w13) (anext HF.out hSa) (snext HT.out hSa) (by decide) (by decide) (by decide) (fun c h => by obtain rfl := List.mem_singleton.1 h; decide) fits_O tiny_fitsF tiny_fitsS (HE.out.next hSa)
  rw [nm_6] at H2
  have H2h := Lib.hid H2
  clear H2 hb13 hS12
  go_wp2_with fail
  refine H2h.out.mono ?_
  rintro e w14 ⟨rfl, hb14⟩
  have hS14 := hSa.trans hb14
  clear H2h hb14 hSa hS13
  go_wp2_with fail
  refine (own_atm _ tinyF _ (anext HF.out hS14) (by decide)).mono ?_
  rintro e w15 ⟨v15, rfl, hO15, hb15⟩
  have hS15 := hS14.trans hb15
  go_wp2_with fail
  refine (at_any [98] [113] [100] _).mono ?_
  rintro e w16 ⟨rfl, hb16⟩
  have hS16 := hS15.trans hb16
  have hO16 := own_since hO15 (hb16.alloc (.cells #[.string ⟨#[98]⟩, .string ⟨#[113]⟩, .int .i64 1, .bool false, .string ⟨#[100]⟩, .bool false, .string ⟨#[]⟩, .bool false, .string ⟨#[]⟩, .bool false, .string ⟨#[]⟩] 29))
  have hB14 : w2.heap.size ≤ w14.heap.size := hS14.size
  have hBz : w14.heap.size ≤ (w16.alloc (.cells #[.string ⟨#[98]⟩, .string ⟨#[113]⟩, .int .i64 1, .bool false, .string ⟨#[100]⟩, .bool false, .string ⟨#[]⟩, .bool false, .string ⟨#[]⟩, .bool false, .string ⟨#[]⟩] 29)).heap.size := ((hb15.trans hb16).alloc (.cells #[.string ⟨#[98]⟩, .string ⟨#[113]⟩, .int .i64 1, .bool false, .string ⟨#[100]⟩, .bool false, .string ⟨#[]⟩, .bool false, .string ⟨#[]⟩, .bool false, .string ⟨#[]⟩] 29)).size
  clear hO15 hb15 hb16 hS15
  go_wp2_with (at_builtin; refine wpList_append_any _ rfl (.tmp 96) (.tmp 98) 23 rfl w14.heap.size 29 i5 (.agg #[.string ByteArray.empty, .string ByteArray.empty, .int .i64 0, .bool false, .string ByteArray.empty, .bool false, .string ByteArray.empty, .bool false, .string ByteArray.empty, .bool false, .string ByteArray.empty]) 11 136 Tryd.underlying23 I5.out.1 I5.out.2.1 I5.out.2.2.1 I5.out.2.2.2 rfl (by decide) _ 1 _ rfl hO16 _ _ 1 1 (#[.string ⟨#[98]⟩, .string ⟨#[113]⟩, .int .i64 1, .bool false, .string ⟨#[100]⟩, .bool false, .string ⟨#[]⟩, .bool false, .string ⟨#[]⟩, .bool false, .string ⟨#[]⟩] : Array Value).toList rfl (reads_new w16 #[.string ⟨#[98]⟩, .string ⟨#[113]⟩, .int .i64 1, .bool false, .string ⟨#[100]⟩, .bool false, .string ⟨#[]⟩, .bool false, .string ⟨#[]⟩, .bool false, .string ⟨#[]⟩] 29 11 rfl) ?c1 ?c2 ?c3 ?c4 ?_)
  case c1 => simp [Value.oneCell']
  case c2 => decide
  case c3 => omega
  case c4 => exact hBz
  intro v17 w17 hown hgrow _
  have hS17 : Since w2 w17 := Below.grown (hS16.alloc _) hgrow (hS16.alloc (.cells #[.string ⟨#[98]⟩, .string ⟨#[113]⟩, .int .i64 1, .bool false, .string ⟨#[100]⟩, .bool false, .string ⟨#[]⟩, .bool false, .string ⟨#[]⟩, .bool false, .string ⟨#[]⟩] 29)).size (own_ge (own_base hO16 hB14))
  have hL17 : ARow w17 v17 (tinyF ++ [tinyQ]) := own_arow (L := tinyF ++ [tinyQ]) hown
  clear hown hgrow hO16 hB14 hBz hS16 hS14
  obtain ⟨al, cl, rfl⟩ := hL17.slice
  obtain ⟨bl, ol, rfl, hcl, hal⟩ := hL17.get (by decide)
  have kL : At w17 bl (ol + 1 * 11) #[.string ⟨#[98]⟩, .string ⟨#[113]⟩, .int .i64 1, .bool false, .string ⟨#[100]⟩, .bool false, .string ⟨#[]⟩, .bool false, .string ⟨#[]⟩, .bool false, .string ⟨#[]⟩] := fun j u hu => hal 1 (by decide) j u hu
  have HL17 := Lib.hid hL17
  have kA17 := kA.next hS17
  have h417 := h4.next hS17
  clear hal hL17
  go_upto_region 15 with (fail)
  go_cut [20, 21] from 100 to 115 (fun s r W => s = .int .i64 2 ∧ r = .int .i64 15 ∧ Since w17 W)
  case first =>
    have hc0 : Since w17 w17.drew := (Since.refl _).drew
    refine hx_begin (S := fun W => Since w17 W) (by kernel_rfl) hc0 (by kernel_rfl) (fun _ _ _ _ _ h => h) (fun hns hQ => ?_)
    refine hx_take (i := 0) (oi := _) (v := .slice va tinyC.length 1) rfl rfl hns (by kernel_rfl) (by kernel_rfl) hQ (by kernel_rfl) (fun _ _ => by kernel_rfl) hc0 ?_
    refine hx_take (i := 1) (oi := _) (v := .slice (some ⟨bl, ol, none⟩) 2 cl) rfl rfl hns (by kernel_rfl) (by kernel_rfl) hQ (by kernel_rfl) (fun _ _ => by kernel_rfl) hc0 ?_
    refine hx_take (i := 2) (oi := _) (v := .slice (some ⟨bs, os, none⟩) tinyS.length 2) rfl rfl hns (by kernel_rfl) (by kernel_rfl) hQ (by kernel_rfl) (fun _ _ => by kernel_rfl) hc0 ?_
    refine hx_take (i := 4) (oi := _) (v := .slice (some ⟨bl, ol, none⟩) 2 cl) rfl rfl hns (by kernel_rfl) (by kernel_rfl) hQ (by kernel_rfl) (fun _ _ => by kernel_rfl) hc0 ?_
    refine hx_take (i := 5) (oi := _) (v := .pointer (some ⟨bl, ol + 1 * 11, none⟩)) rfl rfl hns (by kernel_rfl) (by kernel_rfl) hQ (by kernel_rfl) (fun W _ => ix_sl (n := 2) (c := cl) (K := 11) rfl (by kernel_rfl) (by kernel_rfl) (by kernel_rfl) rfl (by decide) W) hc0 ?_
    refine hx_take (i := 6) (oi := _) (v := .agg #[.string ⟨#[98]⟩, .string ⟨#[113]⟩, .int .i64 1, .bool false, .string ⟨#[100]⟩, .bool false, .string ⟨#[]⟩, .bool false, .string ⟨#[]⟩, .bool false, .string ⟨#[]⟩]) rfl rfl hns (by kernel_rfl) (by kernel_rfl) hQ (by kernel_rfl) (fun W hW => ld_at rfl (by kernel_rfl) (by kernel_rfl) (by kernel_rfl) W (kL.next hW)) hc0 ?_
    refine hx_take (i := 7) (oi := _) (v := .agg #[.string ⟨#[98]⟩, .string ⟨#[113]⟩, .int .i64 1, .bool false, .string ⟨#[100]⟩, .bool false, .string ⟨#[]⟩, .bool false, .string ⟨#[]⟩, .bool false, .string ⟨#[]⟩, .int .i64 (-1), .slice none 0 0]) rfl rfl hns (by kernel_rfl) (by kernel_rfl) hQ (by kernel_rfl) (fun _ _ => by kernel_rfl) hc0 ?_
    refine hx_take (i := 10) (oi := _) (v := .agg #[.string ⟨#[97]⟩, .string ⟨#[112]⟩, .int .i64 1, .bool false, .string ⟨#[99]⟩, .bool false, .string ⟨#[]⟩, .bool false, .string ⟨#[]⟩, .bool false, .string ⟨#[]⟩]) rfl rfl hns (by kernel_rfl) (by kernel_rfl) hQ (by kernel_rfl) (fun W hW => ld_at rfl (by kernel_rfl) (by kernel_rfl) (by kernel_rfl) W (h417.next hW)) hc0 ?_
    refine hx_three (i := 3) (j := 8) (k := 11) rfl rfl rfl (by kernel_rfl) (by kernel_rfl) (by kernel_rfl) (by kernel_rfl) ?_ ?_ ?_
    · refine wp_calls 11 #[.slice (some ⟨bs, os, none⟩) tinyS.length 2] rfl (by kernel_rfl) (ownsteps_any _ tinyS _ (snext HT.out (hS17.trans hc0)) (by decide) (fun t h => by have := (tiny_fitsS t h).2; omega)) ?_
      rintro e wx51 ⟨vn, rfl, N, eN, hN, hb⟩
      have hc1 : Since w17 wx51 := hc0.trans hb
      replace hN := hN.base (hc0).size
      obtain ⟨un0, un1, rfl⟩ := stps_two eN
      obtain ⟨an, cn, rfl⟩ := own_slice hN.row
      clear hb
      refine ⟨_, rfl, ⟨hc1, ?_⟩⟩
      refine hx_two_vv (i := 8) (j := 11) (.slice (some ⟨wx51.heap.size, 0, none⟩) 1 1) ((wx51.alloc (.cells #[.string ⟨#[98]⟩, .string ⟨#[113]⟩, .int .i64 1, .bool false, .string ⟨#[100]⟩, .bool false, .string ⟨#[]⟩, .bool false, .string ⟨#[]⟩, .bool false, .string ⟨#[]⟩, .int .i64 (-1), .slice none 0 0] 41))) (.slice (some ⟨wx51.heap.size, 0, none⟩) 1 1) ((wx51.alloc (.cells #[.string ⟨#[97]⟩, .string ⟨#[112]⟩, .int .i64 1, .bool false, .string ⟨#[99]⟩, .bool false, .string ⟨#[]⟩, .bool false, .string ⟨#[]⟩, .bool false, .string ⟨#[]⟩] 29))) rfl rfl (by kernel_rfl) (by kernel_rfl) (by kernel_rfl) rfl (by kernel_rfl) (hc1.alloc _) rfl (by kernel_rfl) (hc1.alloc _) ?_ ?_
      · have hc2 : Since w17 (wx51.alloc (.cells #[.string ⟨#[98]⟩, .string ⟨#[113]⟩, .int .i64 1, .bool false, .string ⟨#[100]⟩, .bool false, .string ⟨#[]⟩, .bool false, .string ⟨#[]⟩, .bool false, .string ⟨#[]⟩, .int .i64 (-1), .slice none 0 0] 41)) := hc1.alloc _
        replace hN := hN.next ((Since.refl wx51).alloc (.cells #[.string ⟨#[98]⟩, .string ⟨#[113]⟩, .int .i64 1, .bool false, .string ⟨#[100]⟩, .bool false, .string ⟨#[]⟩, .bool false, .string ⟨#[]⟩, .bool false, .string ⟨#[]⟩, .int .i64 (-1), .slice none 0 0] 41))
        have hB1 : Cel (wx51.alloc (.cells #[.string ⟨#[98]⟩, .string ⟨#[113]⟩, .int .i64 1, .bool false, .string ⟨#[100]⟩, .bool false, .string ⟨#[]⟩, .bool false, .string ⟨#[]⟩, .bool false, .string ⟨#[]⟩, .int .i64 (-1), .slice none 0 0] 41)) wx51.heap.size #[.string ⟨#[98]⟩, .string ⟨#[113]⟩, .int .i64 1, .bool false, .string ⟨#[100]⟩, .bool false, .string ⟨#[]⟩, .bool false, .string ⟨#[]⟩, .bool false, .string ⟨#[]⟩, .int .i64 (-1), .slice none 0 0] 41 := heap_alloc_new _ _
        refine hx_two (i := 9) (j := 11) rfl rfl (by kernel_rfl) (by kernel_rfl) (by kernel_rfl) ?_ ?_
        · refine wp_appendK (.tmp 104) (.tmp 109) 24 w17.heap.size 41 i2 (.agg #[.string ByteArray.empty, .string ByteArray.empty, .int .i64 0, .bool false, .string ByteArray.empty, .bool false, .string ByteArray.empty, .bool false, .string ByteArray.empty, .bool false, .string ByteArray.empty, .int .i64 0, .slice none 0 0]) 13 168 (.slice an 2 cn) 2 _ _ (some ⟨wx51.heap.size, 0, none⟩) 1 1 (#[.string ⟨#[98]⟩, .string ⟨#[113]⟩, .int .i64 1, .bool false, .string ⟨#[100]⟩, .bool false, .string ⟨#[]⟩, .bool false, .string ⟨#[]⟩, .bool false, .string ⟨#[]⟩, .int .i64 (-1), .slice none 0 0] : Array Value).toList rfl rfl Tryd.underlying24 I2.out.1 I2.out.2.1 I2.out.2.2.1 I2.out.2.2.2 rfl (by decide) (by kernel_rfl) hN.row (by kernel_rfl) (reads_cel hB1 rfl) (by simp [Value.oneCell']) (by decide) (by decide) (hc2).size ?_
          intro v8 w8 hown8 hg8 _
          have hc3 : Since w17 w8 := Below.grown hc2 hg8 (hc2).size (own_ge hN.row)
          have hSR : SRow w8 v8 (tinyS ++ [(tinyQ, -1, [])]) := nests_plus (s := (tinyQ, -1, [])) hN hown8 rfl hg8 (KRow.nil _ _)
          clear hown8 hg8 hN hB1
          obtain ⟨a8, c8, rfl⟩ := hSR.slice
          refine ⟨hc3, ?_⟩
          have hc4 : Since w17 (w8.alloc (.cells #[.string ⟨#[97]⟩, .string ⟨#[112]⟩, .int .i64 1, .bool false, .string ⟨#[99]⟩, .bool false, .string ⟨#[]⟩, .bool false, .string ⟨#[]⟩, .bool false, .string ⟨#[]⟩] 29)) := hc3.alloc _
          replace hSR := snext hSR ((Since.refl w8).alloc (.cells #[.string ⟨#[97]⟩, .string ⟨#[112]⟩, .int .i64 1, .bool false, .string ⟨#[99]⟩, .bool false, .string ⟨#[]⟩, .bool false, .string ⟨#[]⟩, .bool false, .string ⟨#[]⟩] 29))
          refine hx_make (i := 11) (oi := _) (.slice (some ⟨w8.heap.size, 0, none⟩) 1 1) (w8.alloc (.cells #[.string ⟨#[97]⟩, .string ⟨#[112]⟩, .int .i64 1, .bool false, .string ⟨#[99]⟩, .bool false, .string ⟨#[]⟩, .bool false, .string ⟨#[]⟩, .bool false, .string ⟨#[]⟩] 29)) rfl rfl (by kernel_rfl) (by kernel_rfl) (by kernel_rfl) hc4 ?_
          have hB2 : Cel (w8.alloc (.cells #[.string ⟨#[97]⟩, .string ⟨#[112]⟩, .int .i64 1, .bool false, .string ⟨#[99]⟩, .bool false, .string ⟨#[]⟩, .bool false, .string ⟨#[]⟩, .bool false, .string ⟨#[]⟩] 29)) w8.heap.size #[.string ⟨#[97]⟩, .string ⟨#[112]⟩, .int .i64 1, .bool false, .string ⟨#[99]⟩, .bool false, .string ⟨#[]⟩, .bool false, .string ⟨#[]⟩, .bool false, .string ⟨#[]⟩] 29 := heap_alloc_new _ _
          have hQ7 := HCHK.out _ (hS17.trans hc4) _ _ (tinyF ++ [tinyQ]) _ _ (tinyS ++ [(tinyQ, -1, [])]) _ 1 [tinyG] (anext HL17.out hc4) hSR (arow_cel hB2 rfl (Nat.le_refl _)) (by decide) (by decide) (by decide) (fun a h => by rcases List.mem_append.1 h with h | h; exact tiny_fitsF a h; obtain rfl := List.mem_singleton.1 h; exact fits_Q) tiny_fitsG (fits_snoc tiny_fitsS ⟨fits_Q, by decide⟩)
          rw [nm_7] at hQ7
          refine hx_call (i := 12) (oi := _) 15 #[.slice va tinyC.length 1, .slice (some ⟨bl, ol, none⟩) 2 cl, .slice a8 3 c8, .slice (some ⟨w8.heap.size, 0, none⟩) 1 1] rfl rfl (by kernel_rfl) (by kernel_rfl) (by kernel_rfl) (hQ7) ?_
          rintro e wx52 ⟨rfl, hb⟩
          have hc5 : Since w17 wx52 := hc4.trans hb
          replace hSR := snext hSR hb
          replace hB2 := hB2.next hb
          clear hb
          refine ⟨_, rfl, hc5, ?_⟩
          refine hx_take (i := 13) (oi := _) (v := .tuple #[.int .i64 2, .int .i64 15]) rfl rfl hns (by kernel_rfl) (by kernel_rfl) hQ (by kernel_rfl) (fun _ _ => by kernel_rfl) hc5 ?_
          refine hx_take (i := 14) (oi := _) (v := .int .i64 2) rfl rfl hns (by kernel_rfl) (by kernel_rfl) hQ (by kernel_rfl) (fun _ _ => by kernel_rfl) hc5 ?_
          refine hx_take (i := 15) (oi := _) (v := .int .i64 15) rfl rfl hns (by kernel_rfl) (by kernel_rfl) hQ (by kernel_rfl) (fun _ _ => by kernel_rfl) hc5 ?_
          refine hx_take (i := 16) (oi := _) (v := .int .i64 2) rfl rfl hns (by kernel_rfl) (by kernel_rfl) hQ (by kernel_rfl) (fun _ _ => by kernel_rfl) hc5 ?_
          refine hx_take (i := 17) (oi := _) (v := .int .i64 15) rfl rfl hns (by kernel_rfl) (by kernel_rfl) hQ (by kernel_rfl) (fun _ _ => by kernel_rfl) hc5 ?_
          refine wpAnyH_done (by kernel_rfl) ?_ _
          clear hns hQ
          simp only [List.set_cons_zero, List.set_cons_succ]
          go_wp2_with fail
          go_meet
          case rel => exact ⟨rfl, rfl, hc5⟩
        · have hc3 : Since w17 ((wx51.alloc (.cells #[.string ⟨#[98]⟩, .string ⟨#[113]⟩, .int .i64 1, .bool false, .string ⟨#[100]⟩, .bool false, .string ⟨#[]⟩, .bool false, .string ⟨#[]⟩, .bool false, .string ⟨#[]⟩, .int .i64 (-1), .slice none 0 0] 41)).alloc (.cells #[.string ⟨#[97]⟩, .string ⟨#[112]⟩, .int .i64 1, .bool false, .string ⟨#[99]⟩, .bool false, .string ⟨#[]⟩, .bool false, .string ⟨#[]⟩, .bool false, .string ⟨#[]⟩] 29)) := hc2.alloc _
          replace hN := hN.next ((Since.refl (wx51.alloc (.cells #[.string ⟨#[98]⟩, .string ⟨#[113]⟩, .int .i64 1, .bool false, .string ⟨#[100]⟩, .bool false, .string ⟨#[]⟩, .bool false, .string ⟨#[]⟩, .bool false, .string ⟨#[]⟩, .int .i64 (-1), .slice none 0 0] 41))).alloc (.cells #[.string ⟨#[97]⟩, .string ⟨#[112]⟩, .int .i64 1, .bool false, .string ⟨#[99]⟩, .bool false, .string ⟨#[]⟩, .bool false, .string ⟨#[]⟩, .bool false, .string ⟨#[]⟩] 29))
          replace hB1 := hB1.next ((Since.refl (wx51.alloc (.cells #[.string ⟨#[98]⟩, .string ⟨#[113]⟩, .int .i64 1, .bool false, .string ⟨#[100]⟩, .bool false, .string ⟨#[]⟩, .bool false, .string ⟨#[]⟩, .bool false, .string ⟨#[]⟩, .int .i64 (-1), .slice none 0 0] 41))).alloc (.cells #[.string ⟨#[97]⟩, .string ⟨#[112]⟩, .int .i64 1, .bool false, .string ⟨#[99]⟩, .bool false, .string ⟨#[]⟩, .bool false, .string ⟨#[]⟩, .bool false, .string ⟨#[]⟩] 29))
          refine wp_value (v := .slice (some ⟨(wx51.alloc (.cells #[.string ⟨#[98]⟩, .string ⟨#[113]⟩, .int .i64 1, .bool false, .string ⟨#[100]⟩, .bool false, .string ⟨#[]⟩, .bool false, .string ⟨#[]⟩, .bool false, .string ⟨#[]⟩, .int .i64 (-1), .slice none 0 0] 41)).heap.size, 0, none⟩) 1 1) (w' := ((wx51.alloc (.cells #[.string ⟨#[98]⟩, .string ⟨#[113]⟩, .int .i64 1, .bool false, .string ⟨#[100]⟩, .bool false, .string ⟨#[]⟩, .bool false, .string ⟨#[]⟩, .bool false, .string ⟨#[]⟩, .int .i64 (-1), .slice none 0 0] 41)).alloc (.cells #[.string ⟨#[97]⟩, .string ⟨#[112]⟩, .int .i64 1, .bool false, .string ⟨#[99]⟩, .bool false, .string ⟨#[]⟩, .bool false, .string ⟨#[]⟩, .bool false, .string ⟨#[]⟩] 29))) rfl (by kernel_rfl) ⟨hc3, ?_⟩
          have hB2 : Cel ((wx51.alloc (.cells #[.string ⟨#[98]⟩, .string ⟨#[113]⟩, .int .i64 1, .bool false, .string ⟨#[100]⟩, .bool false, .string ⟨#[]⟩, .bool false, .string ⟨#[]⟩, .bool false, .string ⟨#[]⟩, .int .i64 (-1), .slice none 0 0] 41)).alloc (.cells #[.string ⟨#[97]⟩, .string ⟨#[112]⟩, .int .i64 1, .bool false, .string ⟨#[99]⟩, .bool false, .string ⟨#[]⟩, .bool false, .string ⟨#[]⟩, .bool false, .string ⟨#[]⟩] 29)) (wx51.alloc (.cells #[.string ⟨#[98]⟩, .string ⟨#[113]⟩, .int .i64 1, .bool false, .string ⟨#[100]⟩, .bool false, .string ⟨#[]⟩, .bool false, .string ⟨#[]⟩, .bool false, .string ⟨#[]⟩, .int .i64 (-1), .slice none 0 0] 41)).heap.size #[.string ⟨#[97]⟩, .string ⟨#[112]⟩, .int .i64 1, .bool false, .string ⟨#[99]⟩, .bool false, .string ⟨#[]⟩, .bool false, .string ⟨#[]⟩, .bool false, .string ⟨#[]⟩] 29 := heap_alloc_new _ _
          refine hx_append (i := 9) (oi := _) (.tmp 104) (.tmp 109) 24 w17.heap.size 41 i2 (.agg #[.string ByteArray.empty, .string ByteArray.empty, .int .i64 0, .bool false, .string ByteArray.empty, .bool false, .string ByteArray.empty, .bool false, .string ByteArray.empty, .bool false, .string ByteArray.empty, .int .i64 0, .slice none 0 0]) 13 168 (.slice an 2 cn) 2 _ _ (some ⟨wx51.heap.size, 0, none⟩) 1 1 (#[.string ⟨#[98]⟩, .string ⟨#[113]⟩, .int .i64 1, .bool false, .string ⟨#[100]⟩, .bool false, .string ⟨#[]⟩, .bool false, .string ⟨#[]⟩, .bool false, .string ⟨#[]⟩, .int .i64 (-1), .slice none 0 0] : Array Value).toList rfl rfl (by kernel_rfl) (by kernel_rfl) rfl Tryd.underlying24 I2.out.1 I2.out.2.1 I2.out.2.2.1 I2.out.2.2.2 rfl (by decide) (by kernel_rfl) hN.row (by kernel_rfl) (reads_cel hB1 rfl) (by simp [Value.oneCell']) (by decide) (by decide) (hc3).size ?_
          intro v8 w8 hown8 hg8 _
          have hc4 : Since w17 w8 := Below.grown hc3 hg8 (hc3).size (own_ge hN.row)
          have hSR : SRow w8 v8 (tinyS ++ [(tinyQ, -1, [])]) := nests_plus (s := (tinyQ, -1, [])) hN hown8 rfl hg8 (KRow.nil _ _)
          replace hB2 := cel_own hB2 hN.row (by decide) hg8
          clear hown8 hg8 hN hB1
          obtain ⟨a8, c8, rfl⟩ := hSR.slice
          refine ⟨hc4, ?_⟩
          have hQ7 := HCHK.out _ (hS17.trans hc4) _ _ (tinyF ++ [tinyQ]) _ _ (tinyS ++ [(tinyQ, -1, [])]) _ 1 [tinyG] (anext HL17.out hc4) hSR (arow_cel hB2 rfl (Nat.le_refl _)) (by decide) (by decide) (by decide) (fun a h => by rcases List.mem_append.1 h with h | h; exact tiny_fitsF a h; obtain rfl := List.mem_singleton.1 h; exact fits_Q) tiny_fitsG (fits_snoc tiny_fitsS ⟨fits_Q, by decide⟩)
          rw [nm_7] at hQ7
          refine hx_call (i := 12) (oi := _) 15 #[.slice va tinyC.length 1, .slice (some ⟨bl, ol, none⟩) 2 cl, .slice a8 3 c8, .slice (some ⟨(wx51.alloc (.cells #[.string ⟨#[98]⟩, .string ⟨#[113]⟩, .int .i64 1, .bool false, .string ⟨#[100]⟩, .bool false, .string ⟨#[]⟩, .bool false, .string ⟨#[]⟩, .bool false, .string ⟨#[]⟩, .int .i64 (-1), .slice none 0 0] 41)).heap.size, 0, none⟩) 1 1] rfl rfl (by kernel_rfl) (by kernel_rfl) (by kernel_rfl) (hQ7) ?_
          rintro e wx52 ⟨rfl, hb⟩
          have hc5 : Since w17 wx52 := hc4.trans hb
          replace hB2 := hB2.next hb
          replace hSR := snext hSR hb
          clear hb
          refine ⟨_, rfl, hc5, ?_⟩
          refine hx_take (i := 13) (oi := _) (v := .tuple #[.int .i64 2, .int .i64 15]) rfl rfl hns (by kernel_rfl) (by kernel_rfl) hQ (by kernel_rfl) (fun _ _ => by kernel_rfl) hc5 ?_
          refine hx_take (i := 14) (oi := _) (v := .int .i64 2) rfl rfl hns (by kernel_rfl) (by kernel_rfl) hQ (by kernel_rfl) (fun _ _ => by kernel_rfl) hc5 ?_
          refine hx_take (i := 15) (oi := _) (v := .int .i64 15) rfl rfl hns (by kernel_rfl) (by kernel_rfl) hQ (by kernel_rfl) (fun _ _ => by kernel_rfl) hc5 ?_
          refine hx_take (i := 16) (oi := _) (v := .int .i64 2) rfl rfl hns (by kernel_rfl) (by kernel_rfl) hQ (by kernel_rfl) (fun _ _ => by kernel_rfl) hc5 ?_
          refine hx_take (i := 17) (oi := _) (v := .int .i64 15) rfl rfl hns (by kernel_rfl) (by kernel_rfl) hQ (by kernel_rfl) (fun _ _ => by kernel_rfl) hc5 ?_
          refine wpAnyH_done (by kernel_rfl) ?_ _
          clear hns hQ
          simp only [List.set_cons_zero, List.set_cons_succ]
          go_wp2_with fail
          go_meet
          case rel => exact ⟨rfl, rfl, hc5⟩
      · have hc2 : Since w17 (wx51.alloc (.cells #[.string ⟨#[97]⟩, .string ⟨#[112]⟩, .int .i64 1, .bool false, .string ⟨#[99]⟩, .bool false, .string ⟨#[]⟩, .bool false, .string ⟨#[]⟩, .bool false, .string ⟨#[]⟩] 29)) := hc1.alloc _
        replace hN := hN.next ((Since.refl wx51).alloc (.cells #[.string ⟨#[97]⟩, .string ⟨#[112]⟩, .int .i64 1, .bool false, .string ⟨#[99]⟩, .bool false, .string ⟨#[]⟩, .bool false, .string ⟨#[]⟩, .bool false, .string ⟨#[]⟩] 29))
        have hB2 : Cel (wx51.alloc (.cells #[.string ⟨#[97]⟩, .string ⟨#[112]⟩, .int .i64 1, .bool false, .string ⟨#[99]⟩, .bool false, .string ⟨#[]⟩, .bool false, .string ⟨#[]⟩, .bool false, .string ⟨#[]⟩] 29)) wx51.heap.size #[.string ⟨#[97]⟩, .string ⟨#[112]⟩, .int .i64 1, .bool false, .string ⟨#[99]⟩, .bool false, .string ⟨#[]⟩, .bool false, .string ⟨#[]⟩, .bool false, .string ⟨#[]⟩] 29 := heap_alloc_new _ _
        have hc3 : Since w17 ((wx51.alloc (.cells #[.string ⟨#[97]⟩, .string ⟨#[112]⟩, .int .i64 1, .bool false, .string ⟨#[99]⟩, .bool false, .string ⟨#[]⟩, .bool false, .string ⟨#[]⟩, .bool false, .string ⟨#[]⟩] 29)).alloc (.cells #[.string ⟨#[98]⟩, .string ⟨#[113]⟩, .int .i64 1, .bool false, .string ⟨#[100]⟩, .bool false, .string ⟨#[]⟩, .bool false, .string ⟨#[]⟩, .bool false, .string ⟨#[]⟩, .int .i64 (-1), .slice none 0 0] 41)) := hc2.alloc _
        replace hN := hN.next ((Since.refl (wx51.alloc (.cells #[.string ⟨#[97]⟩, .string ⟨#[112]⟩, .int .i64 1, .bool false, .string ⟨#[99]⟩, .bool false, .string ⟨#[]⟩, .bool false, .string ⟨#[]⟩, .bool false, .string ⟨#[]⟩] 29))).alloc (.cells #[.string ⟨#[98]⟩, .string ⟨#[113]⟩, .int .i64 1, .bool false, .string ⟨#[100]⟩, .bool false, .string ⟨#[]⟩, .bool false, .string ⟨#[]⟩, .bool false, .string ⟨#[]⟩, .int .i64 (-1), .slice none 0 0] 41))
        replace hB2 := hB2.next ((Since.refl (wx51.alloc (.cells #[.string ⟨#[97]⟩, .string ⟨#[112]⟩, .int .i64 1, .bool false, .string ⟨#[99]⟩, .bool false, .string ⟨#[]⟩, .bool false, .string ⟨#[]⟩, .bool false, .string ⟨#[]⟩] 29))).alloc (.cells #[.string ⟨#[98]⟩, .string ⟨#[113]⟩, .int .i64 1, .bool false, .string ⟨#[100]⟩, .bool false, .string ⟨#[]⟩, .bool false, .string ⟨#[]⟩, .bool false, .string ⟨#[]⟩, .int .i64 (-1), .slice none 0 0] 41))
        refine hx_make (i := 8) (oi := _) (.slice (some ⟨(wx51.alloc (.cells #[.string ⟨#[97]⟩, .string ⟨#[112]⟩, .int .i64 1, .bool false, .string ⟨#[99]⟩, .bool false, .string ⟨#[]⟩, .bool false, .string ⟨#[]⟩, .bool false, .string ⟨#[]⟩] 29)).heap.size, 0, none⟩) 1 1) ((wx51.alloc (.cells #[.string ⟨#[97]⟩, .string ⟨#[112]⟩, .int .i64 1, .bool false, .string ⟨#[99]⟩, .bool false, .string ⟨#[]⟩, .bool false, .string ⟨#[]⟩, .bool false, .string ⟨#[]⟩] 29)).alloc (.cells #[.string ⟨#[98]⟩, .string ⟨#[113]⟩, .int .i64 1, .bool false, .string ⟨#[100]⟩, .bool false, .string ⟨#[]⟩, .bool false, .string ⟨#[]⟩, .bool false, .string ⟨#[]⟩, .int .i64 (-1), .slice none 0 0] 41)) rfl rfl (by kernel_rfl) (by kernel_rfl) (by kernel_rfl) hc3 ?_
        have hB1 : Cel ((wx51.alloc (.cells #[.string ⟨#[97]⟩, .string ⟨#[112]⟩, .int .i64 1, .bool false, .string ⟨#[99]⟩, .bool false, .string ⟨#[]⟩, .bool false, .string ⟨#[]⟩, .bool false, .string ⟨#[]⟩] 29)).alloc (.cells #[.string ⟨#[98]⟩, .string ⟨#[113]⟩, .int .i64 1, .bool false, .string ⟨#[100]⟩, .bool false, .string ⟨#[]⟩, .bool false, .string ⟨#[]⟩, .bool false, .string ⟨#[]⟩, .int .i64 (-1), .slice none 0 0] 41)) (wx51.alloc (.cells #[.string ⟨#[97]⟩, .string ⟨#[112]⟩, .int .i64 1, .bool false, .string ⟨#[99]⟩, .bool false, .string ⟨#[]⟩, .bool false, .string ⟨#[]⟩, .bool false, .string ⟨#[]⟩] 29)).heap.size #[.string ⟨#[98]⟩, .string ⟨#[113]⟩, .int .i64 1, .bool false, .string ⟨#[100]⟩, .bool false, .string ⟨#[]⟩, .bool false, .string ⟨#[]⟩, .bool false, .string ⟨#[]⟩, .int .i64 (-1), .slice none 0 0] 41 := heap_alloc_new _ _
        refine hx_append (i := 9) (oi := _) (.tmp 104) (.tmp 109) 24 w17.heap.size 41 i2 (.agg #[.string ByteArray.empty, .string ByteArray.empty, .int .i64 0, .bool false, .string ByteArray.empty, .bool false, .string ByteArray.empty, .bool false, .string ByteArray.empty, .bool false, .string ByteArray.empty, .int .i64 0, .slice none 0 0]) 13 168 (.slice an 2 cn) 2 _ _ (some ⟨(wx51.alloc (.cells #[.string ⟨#[97]⟩, .string ⟨#[112]⟩, .int .i64 1, .bool false, .string ⟨#[99]⟩, .bool false, .string ⟨#[]⟩, .bool false, .string ⟨#[]⟩, .bool false, .string ⟨#[]⟩] 29)).heap.size, 0, none⟩) 1 1 (#[.string ⟨#[98]⟩, .string ⟨#[113]⟩, .int .i64 1, .bool false, .string ⟨#[100]⟩, .bool false, .string ⟨#[]⟩, .bool false, .string ⟨#[]⟩, .bool false, .string ⟨#[]⟩, .int .i64 (-1), .slice none 0 0] : Array Value).toList rfl rfl (by kernel_rfl) (by kernel_rfl) rfl Tryd.underlying24 I2.out.1 I2.out.2.1 I2.out.2.2.1 I2.out.2.2.2 rfl (by decide) (by kernel_rfl) hN.row (by kernel_rfl) (reads_cel hB1 rfl) (by simp [Value.oneCell']) (by decide) (by decide) (hc3).size ?_
        intro v8 w8 hown8 hg8 _
        have hc4 : Since w17 w8 := Below.grown hc3 hg8 (hc3).size (own_ge hN.row)
        have hSR : SRow w8 v8 (tinyS ++ [(tinyQ, -1, [])]) := nests_plus (s := (tinyQ, -1, [])) hN hown8 rfl hg8 (KRow.nil _ _)
        replace hB2 := cel_own hB2 hN.row (by decide) hg8
        clear hown8 hg8 hN hB1
        obtain ⟨a8, c8, rfl⟩ := hSR.slice
        refine ⟨hc4, ?_⟩
        have hQ7 := HCHK.out _ (hS17.trans hc4) _ _ (tinyF ++ [tinyQ]) _ _ (tinyS ++ [(tinyQ, -1, [])]) _ 1 [tinyG] (anext HL17.out hc4) hSR (arow_cel hB2 rfl (Nat.le_refl _)) (by decide) (by decide) (by decide) (fun a h => by rcases List.mem_append.1 h with h | h; exact tiny_fitsF a h; obtain rfl := List.mem_singleton.1 h; exact fits_Q) tiny_fitsG (fits_snoc tiny_fitsS ⟨fits_Q, by decide⟩)
        rw [nm_7] at hQ7
        refine hx_call (i := 12) (oi := _) 15 #[.slice va tinyC.length 1, .slice (some ⟨bl, ol, none⟩) 2 cl, .slice a8 3 c8, .slice (some ⟨wx51.heap.size, 0, none⟩) 1 1] rfl rfl (by kernel_rfl) (by kernel_rfl) (by kernel_rfl) (hQ7) ?_
        rintro e wx52 ⟨rfl, hb⟩
        have hc5 : Since w17 wx52 := hc4.trans hb
        replace hB2 := hB2.next hb
        replace hSR := snext hSR hb
        clear hb
        refine ⟨_, rfl, hc5, ?_⟩
        refine hx_take (i := 13) (oi := _) (v := .tuple #[.int .i64 2, .int .i64 15]) rfl rfl hns (by kernel_rfl) (by kernel_rfl) hQ (by kernel_rfl) (fun _ _ => by kernel_rfl) hc5 ?_
        refine hx_take (i := 14) (oi := _) (v := .int .i64 2) rfl rfl hns (by kernel_rfl) (by kernel_rfl) hQ (by kernel_rfl) (fun _ _ => by kernel_rfl) hc5 ?_
        refine hx_take (i := 15) (oi := _) (v := .int .i64 15) rfl rfl hns (by kernel_rfl) (by kernel_rfl) hQ (by kernel_rfl) (fun _ _ => by kernel_rfl) hc5 ?_
        refine hx_take (i := 16) (oi := _) (v := .int .i64 2) rfl rfl hns (by kernel_rfl) (by kernel_rfl) hQ (by kernel_rfl) (fun _ _ => by kernel_rfl) hc5 ?_
        refine hx_take (i := 17) (oi := _) (v := .int .i64 15) rfl rfl hns (by kernel_rfl) (by kernel_rfl) hQ (by kernel_rfl) (fun _ _ => by kernel_rfl) hc5 ?_
        refine wpAnyH_done (by kernel_rfl) ?_ _
        clear hns hQ
        simp only [List.set_cons_zero, List.set_cons_succ]
        go_wp2_with fail
        go_meet
        case rel => exact ⟨rfl, rfl, hc5⟩
    · have hc1 : Since w17 (w17.drew.alloc (.cells #[.string ⟨#[98]⟩, .string ⟨#[113]⟩, .int .i64 1, .bool false, .string ⟨#[100]⟩, .bool false, .string ⟨#[]⟩, .bool false, .string ⟨#[]⟩, .bool false, .string ⟨#[]⟩, .int .i64 (-1), .slice none 0 0] 41)) := hc0.alloc _
      refine wp_value (v := .slice (some ⟨w17.drew.heap.size, 0, none⟩) 1 1) (w' := (w17.drew.alloc (.cells #[.string ⟨#[98]⟩, .string ⟨#[113]⟩, .int .i64 1, .bool false, .string ⟨#[100]⟩, .bool false, .string ⟨#[]⟩, .bool false, .string ⟨#[]⟩, .bool false, .string ⟨#[]⟩, .int .i64 (-1), .slice none 0 0] 41))) rfl (by kernel_rfl) ⟨hc1, ?_⟩
      have hB1 : Cel (w17.drew.alloc (.cells #[.string ⟨#[98]⟩, .string ⟨#[113]⟩, .int .i64 1, .bool false, .string ⟨#[100]⟩, .bool false, .string ⟨#[]⟩, .bool false, .string ⟨#[]⟩, .bool false, .string ⟨#[]⟩, .int .i64 (-1), .slice none 0 0] 41)) w17.drew.heap.size #[.string ⟨#[98]⟩, .string ⟨#[113]⟩, .int .i64 1, .bool false, .string ⟨#[100]⟩, .bool false, .string ⟨#[]⟩, .bool false, .string ⟨#[]⟩, .bool false, .string ⟨#[]⟩, .int .i64 (-1), .slice none 0 0] 41 := heap_alloc_new _ _
      refine hx_two_cv (i := 3) (j := 11) 11 #[.slice (some ⟨bs, os, none⟩) tinyS.length 2] (.slice (some ⟨(w17.drew.alloc (.cells #[.string ⟨#[98]⟩, .string ⟨#[113]⟩, .int .i64 1, .bool false, .string ⟨#[100]⟩, .bool false, .string ⟨#[]⟩, .bool false, .string ⟨#[]⟩, .bool false, .string ⟨#[]⟩, .int .i64 (-1), .slice none 0 0] 41)).heap.size, 0, none⟩) 1 1) (((w17.drew.alloc (.cells #[.string ⟨#[98]⟩, .string ⟨#[113]⟩, .int .i64 1, .bool false, .string ⟨#[100]⟩, .bool false, .string ⟨#[]⟩, .bool false, .string ⟨#[]⟩, .bool false, .string ⟨#[]⟩, .int .i64 (-1), .slice none 0 0] 41)).alloc (.cells #[.string ⟨#[97]⟩, .string ⟨#[112]⟩, .int .i64 1, .bool false, .string ⟨#[99]⟩, .bool false, .string ⟨#[]⟩, .bool false, .string ⟨#[]⟩, .bool false, .string ⟨#[]⟩] 29))) rfl rfl (by kernel_rfl) (by kernel_rfl) (by kernel_rfl) rfl (by kernel_rfl) (ownsteps_any _ tinyS _ (snext HT.out (hS17.trans hc1)) (by decide) (fun t h => by have := (tiny_fitsS t h).2; omega)) rfl (by kernel_rfl) (hc1.alloc _) ?_ ?_
      · rintro e wx51 ⟨vn, rfl, N, eN, hN, hb⟩
        have hc2 : Since w17 wx51 := hc1.trans hb
        replace hB1 := hB1.next hb
        replace hN := hN.base (hc1).size
        obtain ⟨un0, un1, rfl⟩ := stps_two eN
        obtain ⟨an, cn, rfl⟩ := own_slice hN.row
        clear hb
        refine ⟨_, rfl, hc2, ?_⟩
        refine hx_two (i := 9) (j := 11) rfl rfl (by kernel_rfl) (by kernel_rfl) (by kernel_rfl) ?_ ?_
        · refine wp_appendK (.tmp 104) (.tmp 109) 24 w17.heap.size 41 i2 (.agg #[.string ByteArray.empty, .string ByteArray.empty, .int .i64 0, .bool false, .string ByteArray.empty, .bool false, .string ByteArray.empty, .bool false, .string ByteArray.empty, .bool false, .string ByteArray.empty, .int .i64 0, .slice none 0 0]) 13 168 (.slice an 2 cn) 2 _ _ (some ⟨w17.drew.heap.size, 0, none⟩) 1 1 (#[.string ⟨#[98]⟩, .string ⟨#[113]⟩, .int .i64 1, .bool false, .string ⟨#[100]⟩, .bool false, .string ⟨#[]⟩, .bool false, .string ⟨#[]⟩, .bool false, .string ⟨#[]⟩, .int .i64 (-1), .slice none 0 0] : Array Value).toList rfl rfl Tryd.underlying24 I2.out.1 I2.out.2.1 I2.out.2.2.1 I2.out.2.2.2 rfl (by decide) (by kernel_rfl) hN.row (by kernel_rfl) (reads_cel hB1 rfl) (by simp [Value.oneCell']) (by decide) (by decide) (hc2).size ?_
          intro v8 w8 hown8 hg8 _
          have hc3 : Since w17 w8 := Below.grown hc2 hg8 (hc2).size (own_ge hN.row)
          have hSR : SRow w8 v8 (tinyS ++ [(tinyQ, -1, [])]) := nests_plus (s := (tinyQ, -1, [])) hN hown8 rfl hg8 (KRow.nil _ _)
          clear hown8 hg8 hN hB1
          obtain ⟨a8, c8, rfl⟩ := hSR.slice
          refine ⟨hc3, ?_⟩
          have hc4 : Since w17 (w8.alloc (.cells #[.string ⟨#[97]⟩, .string ⟨#[112]⟩, .int .i64 1, .bool false, .string ⟨#[99]⟩, .bool false, .string ⟨#[]⟩, .bool false, .string ⟨#[]⟩, .bool false, .string ⟨#[]⟩] 29)) := hc3.alloc _
          replace hSR := snext hSR ((Since.refl w8).alloc (.cells #[.string ⟨#[97]⟩, .string ⟨#[112]⟩, .int .i64 1, .bool false, .string ⟨#[99]⟩, .bool false, .string ⟨#[]⟩, .bool false, .string ⟨#[]⟩, .bool false, .string ⟨#[]⟩] 29))
          refine hx_make (i := 11) (oi := _) (.slice (some ⟨w8.heap.size, 0, none⟩) 1 1) (w8.alloc (.cells #[.string ⟨#[97]⟩, .string ⟨#[112]⟩, .int .i64 1, .bool false, .string ⟨#[99]⟩, .bool false, .string ⟨#[]⟩, .bool false, .string ⟨#[]⟩, .bool false, .string ⟨#[]⟩] 29)) rfl rfl (by kernel_rfl) (by kernel_rfl) (by kernel_rfl) hc4 ?_
          have hB2 : Cel (w8.alloc (.cells #[.string ⟨#[97]⟩, .string ⟨#[112]⟩, .int .i64 1, .bool false, .string ⟨#[99]⟩, .bool false, .string ⟨#[]⟩, .bool false, .string ⟨#[]⟩, .bool false, .string ⟨#[]⟩] 29)) w8.heap.size #[.string ⟨#[97]⟩, .string ⟨#[112]⟩, .int .i64 1, .bool false, .string ⟨#[99]⟩, .bool false, .string ⟨#[]⟩, .bool false, .string ⟨#[]⟩, .bool false, .string ⟨#[]⟩] 29 := heap_alloc_new _ _
          have hQ7 := HCHK.out _ (hS17.trans hc4) _ _ (tinyF ++ [tinyQ]) _ _ (tinyS ++ [(tinyQ, -1, [])]) _ 1 [tinyG] (anext HL17.out hc4) hSR (arow_cel hB2 rfl (Nat.le_refl _)) (by decide) (by decide) (by decide) (fun a h => by rcases List.mem_append.1 h with h | h; exact tiny_fitsF a h; obtain rfl := List.mem_singleton.1 h; exact fits_Q) tiny_fitsG (fits_snoc tiny_fitsS ⟨fits_Q, by decide⟩)
          rw [nm_7] at hQ7
          refine hx_call (i := 12) (oi := _) 15 #[.slice va tinyC.length 1, .slice (some ⟨bl, ol, none⟩) 2 cl, .slice a8 3 c8, .slice (some ⟨w8.heap.size, 0, none⟩) 1 1] rfl rfl (by kernel_rfl) (by kernel_rfl) (by kernel_rfl) (hQ7) ?_
          rintro e wx52 ⟨rfl, hb⟩
          have hc5 : Since w17 wx52 := hc4.trans hb
          replace hSR := snext hSR hb
          replace hB2 := hB2.next hb
          clear hb
          refine ⟨_, rfl, hc5, ?_⟩
          refine hx_take (i := 13) (oi := _) (v := .tuple #[.int .i64 2, .int .i64 15]) rfl rfl hns (by kernel_rfl) (by kernel_rfl) hQ (by kernel_rfl) (fun _ _ => by kernel_rfl) hc5 ?_
          refine hx_take (i := 14) (oi := _) (v := .int .i64 2) rfl rfl hns (by kernel_rfl) (by kernel_rfl) hQ (by kernel_rfl) (fun _ _ => by kernel_rfl) hc5 ?_
          refine hx_take (i := 15) (oi := _) (v := .int .i64 15) rfl rfl hns (by kernel_rfl) (by kernel_rfl) hQ (by kernel_rfl) (fun _ _ => by kernel_rfl) hc5 ?_
          refine hx_take (i := 16) (oi := _) (v := .int .i64 2) rfl rfl hns (by kernel_rfl) (by kernel_rfl) hQ (by kernel_rfl) (fun _ _ => by kernel_rfl) hc5 ?_
          refine hx_take (i := 17) (oi := _) (v := .int .i64 15) rfl rfl hns (by kernel_rfl) (by kernel_rfl) hQ (by kernel_rfl) (fun _ _ => by kernel_rfl) hc5 ?_
          refine wpAnyH_done (by kernel_rfl) ?_ _
          clear hns hQ
          simp only [List.set_cons_zero, List.set_cons_succ]
          go_wp2_with fail
          go_meet
          case rel => exact ⟨rfl, rfl, hc5⟩
        · have hc3 : Since w17 (wx51.alloc (.cells #[.string ⟨#[97]⟩, .string ⟨#[112]⟩, .int .i64 1, .bool false, .string ⟨#[99]⟩, .bool false, .string ⟨#[]⟩, .bool false, .string ⟨#[]⟩, .bool false, .string ⟨#[]⟩] 29)) := hc2.alloc _
          replace hB1 := hB1.next ((Since.refl wx51).alloc (.cells #[.string ⟨#[97]⟩, .string ⟨#[112]⟩, .int .i64 1, .bool false, .string ⟨#[99]⟩, .bool false, .string ⟨#[]⟩, .bool false, .string ⟨#[]⟩, .bool false, .string ⟨#[]⟩] 29))
          replace hN := hN.next ((Since.refl wx51).alloc (.cells #[.string ⟨#[97]⟩, .string ⟨#[112]⟩, .int .i64 1, .bool false, .string ⟨#[99]⟩, .bool false, .string ⟨#[]⟩, .bool false, .string ⟨#[]⟩, .bool false, .string ⟨#[]⟩] 29))
          refine wp_value (v := .slice (some ⟨wx51.heap.size, 0, none⟩) 1 1) (w' := (wx51.alloc (.cells #[.string ⟨#[97]⟩, .string ⟨#[112]⟩, .int .i64 1, .bool false, .string ⟨#[99]⟩, .bool false, .string ⟨#[]⟩, .bool false, .string ⟨#[]⟩, .bool false, .string ⟨#[]⟩] 29))) rfl (by kernel_rfl) ⟨hc3, ?_⟩
          have hB2 : Cel (wx51.alloc (.cells #[.string ⟨#[97]⟩, .string ⟨#[112]⟩, .int .i64 1, .bool false, .string ⟨#[99]⟩, .bool false, .string ⟨#[]⟩, .bool false, .string ⟨#[]⟩, .bool false, .string ⟨#[]⟩] 29)) wx51.heap.size #[.string ⟨#[97]⟩, .string ⟨#[112]⟩, .int .i64 1, .bool false, .string ⟨#[99]⟩, .bool false, .string ⟨#[]⟩, .bool false, .string ⟨#[]⟩, .bool false, .string ⟨#[]⟩] 29 := heap_alloc_new _ _
          refine hx_append (i := 9) (oi := _) (.tmp 104) (.tmp 109) 24 w17.heap.size 41 i2 (.agg #[.string ByteArray.empty, .string ByteArray.empty, .int .i64 0, .bool false, .string ByteArray.empty, .bool false, .string ByteArray.empty, .bool false, .string ByteArray.empty, .bool false, .string ByteArray.empty, .int .i64 0, .slice none 0 0]) 13 168 (.slice an 2 cn) 2 _ _ (some ⟨w17.drew.heap.size, 0, none⟩) 1 1 (#[.string ⟨#[98]⟩, .string ⟨#[113]⟩, .int .i64 1, .bool false, .string ⟨#[100]⟩, .bool false, .string ⟨#[]⟩, .bool false, .string ⟨#[]⟩, .bool false, .string ⟨#[]⟩, .int .i64 (-1), .slice none 0 0] : Array Value).toList rfl rfl (by kernel_rfl) (by kernel_rfl) rfl Tryd.underlying24 I2.out.1 I2.out.2.1 I2.out.2.2.1 I2.out.2.2.2 rfl (by decide) (by kernel_rfl) hN.row (by kernel_rfl) (reads_cel hB1 rfl) (by simp [Value.oneCell']) (by decide) (by decide) (hc3).size ?_
          intro v8 w8 hown8 hg8 _
          have hc4 : Since w17 w8 := Below.grown hc3 hg8 (hc3).size (own_ge hN.row)
          have hSR : SRow w8 v8 (tinyS ++ [(tinyQ, -1, [])]) := nests_plus (s := (tinyQ, -1, [])) hN hown8 rfl hg8 (KRow.nil _ _)
          replace hB2 := cel_own hB2 hN.row (by decide) hg8
          clear hown8 hg8 hN hB1
          obtain ⟨a8, c8, rfl⟩ := hSR.slice
          refine ⟨hc4, ?_⟩
          have hQ7 := HCHK.out _ (hS17.trans hc4) _ _ (tinyF ++ [tinyQ]) _ _ (tinyS ++ [(tinyQ, -1, [])]) _ 1 [tinyG] (anext HL17.out hc4) hSR (arow_cel hB2 rfl (Nat.le_refl _)) (by decide) (by decide) (by decide) (fun a h => by rcases List.mem_append.1 h with h | h; exact tiny_fitsF a h; obtain rfl := List.mem_singleton.1 h; exact fits_Q) tiny_fitsG (fits_snoc tiny_fitsS ⟨fits_Q, by decide⟩)
          rw [nm_7] at hQ7
          refine hx_call (i := 12) (oi := _) 15 #[.slice va tinyC.length 1, .slice (some ⟨bl, ol, none⟩) 2 cl, .slice a8 3 c8, .slice (some ⟨wx51.heap.size, 0, none⟩) 1 1] rfl rfl (by kernel_rfl) (by kernel_rfl) (by kernel_rfl) (hQ7) ?_
          rintro e wx52 ⟨rfl, hb⟩
          have hc5 : Since w17 wx52 := hc4.trans hb
          replace hB2 := hB2.next hb
          replace hSR := snext hSR hb
          clear hb
          refine ⟨_, rfl, hc5, ?_⟩
          refine hx_take (i := 13) (oi := _) (v := .tuple #[.int .i64 2, .int .i64 15]) rfl rfl hns (by kernel_rfl) (by kernel_rfl) hQ (by kernel_rfl) (fun _ _ => by kernel_rfl) hc5 ?_
          refine hx_take (i := 14) (oi := _) (v := .int .i64 2) rfl rfl hns (by kernel_rfl) (by kernel_rfl) hQ (by kernel_rfl) (fun _ _ => by kernel_rfl) hc5 ?_
          refine hx_take (i := 15) (oi := _) (v := .int .i64 15) rfl rfl hns (by kernel_rfl) (by kernel_rfl) hQ (by kernel_rfl) (fun _ _ => by kernel_rfl) hc5 ?_
          refine hx_take (i := 16) (oi := _) (v := .int .i64 2) rfl rfl hns (by kernel_rfl) (by kernel_rfl) hQ (by kernel_rfl) (fun _ _ => by kernel_rfl) hc5 ?_
          refine hx_take (i := 17) (oi := _) (v := .int .i64 15) rfl rfl hns (by kernel_rfl) (by kernel_rfl) hQ (by kernel_rfl) (fun _ _ => by kernel_rfl) hc5 ?_
          refine wpAnyH_done (by kernel_rfl) ?_ _
          clear hns hQ
          simp only [List.set_cons_zero, List.set_cons_succ]
          go_wp2_with fail
          go_meet
          case rel => exact ⟨rfl, rfl, hc5⟩
      · have hc2 : Since w17 ((w17.drew.alloc (.cells #[.string ⟨#[98]⟩, .string ⟨#[113]⟩, .int .i64 1, .bool false, .string ⟨#[100]⟩, .bool false, .string ⟨#[]⟩, .bool false, .string ⟨#[]⟩, .bool false, .string ⟨#[]⟩, .int .i64 (-1), .slice none 0 0] 41)).alloc (.cells #[.string ⟨#[97]⟩, .string ⟨#[112]⟩, .int .i64 1, .bool false, .string ⟨#[99]⟩, .bool false, .string ⟨#[]⟩, .bool false, .string ⟨#[]⟩, .bool false, .string ⟨#[]⟩] 29)) := hc1.alloc _
        replace hB1 := hB1.next ((Since.refl (w17.drew.alloc (.cells #[.string ⟨#[98]⟩, .string ⟨#[113]⟩, .int .i64 1, .bool false, .string ⟨#[100]⟩, .bool false, .string ⟨#[]⟩, .bool false, .string ⟨#[]⟩, .bool false, .string ⟨#[]⟩, .int .i64 (-1), .slice none 0 0] 41))).alloc (.cells #[.string ⟨#[97]⟩, .string ⟨#[112]⟩, .int .i64 1, .bool false, .string ⟨#[99]⟩, .bool false, .string ⟨#[]⟩, .bool false, .string ⟨#[]⟩, .bool false, .string ⟨#[]⟩] 29))
        have hB2 : Cel ((w17.drew.alloc (.cells #[.string ⟨#[98]⟩, .string ⟨#[113]⟩, .int .i64 1, .bool false, .string ⟨#[100]⟩, .bool false, .string ⟨#[]⟩, .bool false, .string ⟨#[]⟩, .bool false, .string ⟨#[]⟩, .int .i64 (-1), .slice none 0 0] 41)).alloc (.cells #[.string ⟨#[97]⟩, .string ⟨#[112]⟩, .int .i64 1, .bool false, .string ⟨#[99]⟩, .bool false, .string ⟨#[]⟩, .bool false, .string ⟨#[]⟩, .bool false, .string ⟨#[]⟩] 29)) (w17.drew.alloc (.cells #[.string ⟨#[98]⟩, .string ⟨#[113]⟩, .int .i64 1, .bool false, .string ⟨#[100]⟩, .bool false, .string ⟨#[]⟩, .bool false, .string ⟨#[]⟩, .bool false, .string ⟨#[]⟩, .int .i64 (-1), .slice none 0 0] 41)).heap.size #[.string ⟨#[97]⟩, .string ⟨#[112]⟩, .int .i64 1, .bool false, .string ⟨#[99]⟩, .bool false, .string ⟨#[]⟩, .bool false, .string ⟨#[]⟩, .bool false, .string ⟨#[]⟩] 29 := heap_alloc_new _ _
        refine hx_call (i := 3) (oi := _) 11 #[.slice (some ⟨bs, os, none⟩) tinyS.length 2] rfl rfl (by kernel_rfl) (by kernel_rfl) (by kernel_rfl) (ownsteps_any _ tinyS _ (snext HT.out (hS17.trans hc2)) (by decide) (fun t h => by have := (tiny_fitsS t h).2; omega)) ?_
        rintro e wx51 ⟨vn, rfl, N, eN, hN, hb⟩
        have hc3 : Since w17 wx51 := hc2.trans hb
        replace hB1 := hB1.next hb
        replace hB2 := hB2.next hb
        replace hN := hN.base (hc2).size
        obtain ⟨un0, un1, rfl⟩ := stps_two eN
        obtain ⟨an, cn, rfl⟩ := own_slice hN.row
        clear hb
        refine ⟨_, rfl, hc3, ?_⟩
        refine hx_append (i := 9) (oi := _) (.tmp 104) (.tmp 109) 24 w17.heap.size 41 i2 (.agg #[.string ByteArray.empty, .string ByteArray.empty, .int .i64 0, .bool false, .string ByteArray.empty, .bool false, .string ByteArray.empty, .bool false, .string ByteArray.empty, .bool false, .string ByteArray.empty, .int .i64 0, .slice none 0 0]) 13 168 (.slice an 2 cn) 2 _ _ (some ⟨w17.drew.heap.size, 0, none⟩) 1 1 (#[.string ⟨#[98]⟩, .string ⟨#[113]⟩, .int .i64 1, .bool false, .string ⟨#[100]⟩, .bool false, .string ⟨#[]⟩, .bool false, .string ⟨#[]⟩, .bool false, .string ⟨#[]⟩, .int .i64 (-1), .slice none 0 0] : Array Value).toList rfl rfl (by kernel_rfl) (by kernel_rfl) rfl Tryd.underlying24 I2.out.1 I2.out.2.1 I2.out.2.2.1 I2.out.2.2.2 rfl (by decide) (by kernel_rfl) hN.row (by kernel_rfl) (reads_cel hB1 rfl) (by simp [Value.oneCell']) (by decide) (by decide) (hc3).size ?_
        intro v8 w8 hown8 hg8 _
        have hc4 : Since w17 w8 := Below.grown hc3 hg8 (hc3).size (own_ge hN.row)
        have hSR : SRow w8 v8 (tinyS ++ [(tinyQ, -1, [])]) := nests_plus (s := (tinyQ, -1, [])) hN hown8 rfl hg8 (KRow.nil _ _)
        replace hB2 := cel_own hB2 hN.row (by decide) hg8
        clear hown8 hg8 hN hB1
        obtain ⟨a8, c8, rfl⟩ := hSR.slice
        refine ⟨hc4, ?_⟩
        have hQ7 := HCHK.out _ (hS17.trans hc4) _ _ (tinyF ++ [tinyQ]) _ _ (tinyS ++ [(tinyQ, -1, [])]) _ 1 [tinyG] (anext HL17.out hc4) hSR (arow_cel hB2 rfl (Nat.le_refl _)) (by decide) (by decide) (by decide) (fun a h => by rcases List.mem_append.1 h with h | h; exact tiny_fitsF a h; obtain rfl := List.mem_singleton.1 h; exact fits_Q) tiny_fitsG (fits_snoc tiny_fitsS ⟨fits_Q, by decide⟩)
        rw [nm_7] at hQ7
        refine hx_call (i := 12) (oi := _) 15 #[.slice va tinyC.length 1, .slice (some ⟨bl, ol, none⟩) 2 cl, .slice a8 3 c8, .slice (some ⟨(w17.drew.alloc (.cells #[.string ⟨#[98]⟩, .string ⟨#[113]⟩, .int .i64 1, .bool false, .string ⟨#[100]⟩, .bool false, .string ⟨#[]⟩, .bool false, .string ⟨#[]⟩, .bool false, .string ⟨#[]⟩, .int .i64 (-1), .slice none 0 0] 41)).heap.size, 0, none⟩) 1 1] rfl rfl (by kernel_rfl) (by kernel_rfl) (by kernel_rfl) (hQ7) ?_
        rintro e wx52 ⟨rfl, hb⟩
        have hc5 : Since w17 wx52 := hc4.trans hb
        replace hB2 := hB2.next hb
        replace hSR := snext hSR hb
        clear hb
        refine ⟨_, rfl, hc5, ?_⟩
        refine hx_take (i := 13) (oi := _) (v := .tuple #[.int .i64 2, .int .i64 15]) rfl rfl hns (by kernel_rfl) (by kernel_rfl) hQ (by kernel_rfl) (fun _ _ => by kernel_rfl) hc5 ?_
        refine hx_take (i := 14) (oi := _) (v := .int .i64 2) rfl rfl hns (by kernel_rfl) (by kernel_rfl) hQ (by kernel_rfl) (fun _ _ => by kernel_rfl) hc5 ?_
        refine hx_take (i := 15) (oi := _) (v := .int .i64 15) rfl rfl hns (by kernel_rfl) (by kernel_rfl) hQ (by kernel_rfl) (fun _ _ => by kernel_rfl) hc5 ?_
        refine hx_take (i := 16) (oi := _) (v := .int .i64 2) rfl rfl hns (by kernel_rfl) (by kernel_rfl) hQ (by kernel_rfl) (fun _ _ => by kernel_rfl) hc5 ?_
        refine hx_take (i := 17) (oi := _) (v := .int .i64 15) rfl rfl hns (by kernel_rfl) (by kernel_rfl) hQ (by kernel_rfl) (fun _ _ => by kernel_rfl) hc5 ?_
        refine wpAnyH_done (by kernel_rfl) ?_ _
        clear hns hQ
        simp only [List.set_cons_zero, List.set_cons_succ]
        go_wp2_with fail
        go_meet
        case rel => exact ⟨rfl, rfl, hc5⟩
    · have hc1 : Since w17 (w17.drew.alloc (.cells #[.string ⟨#[97]⟩, .string ⟨#[112]⟩, .int .i64 1, .bool false, .string ⟨#[99]⟩, .bool false, .string ⟨#[]⟩, .bool false, .string ⟨#[]⟩, .bool false, .string ⟨#[]⟩] 29)) := hc0.alloc _
      refine wp_value (v := .slice (some ⟨w17.drew.heap.size, 0, none⟩) 1 1) (w' := (w17.drew.alloc (.cells #[.string ⟨#[97]⟩, .string ⟨#[112]⟩, .int .i64 1, .bool false, .string ⟨#[99]⟩, .bool false, .string ⟨#[]⟩, .bool false, .string ⟨#[]⟩, .bool false, .string ⟨#[]⟩] 29))) rfl (by kernel_rfl) ⟨hc1, ?_⟩
      have hB2 : Cel (w17.drew.alloc (.cells #[.string ⟨#[97]⟩, .string ⟨#[112]⟩, .int .i64 1, .bool false, .string ⟨#[99]⟩, .bool false, .string ⟨#[]⟩, .bool false, .string ⟨#[]⟩, .bool false, .string ⟨#[]⟩] 29)) w17.drew.heap.size #[.string ⟨#[97]⟩, .string ⟨#[112]⟩, .int .i64 1, .bool false, .string ⟨#[99]⟩, .bool false, .string ⟨#[]⟩, .bool false, .string ⟨#[]⟩, .bool false, .string ⟨#[]⟩] 29 := heap_alloc_new _ _
      refine hx_two_cv (i := 3) (j := 8) 11 #[.slice (some ⟨bs, os, none⟩) tinyS.length 2] (.slice (some ⟨(w17.drew.alloc (.cells #[.string ⟨#[97]⟩, .string ⟨#[112]⟩, .int .i64 1, .bool false, .string ⟨#[99]⟩, .bool false, .string ⟨#[]⟩, .bool false, .string ⟨#[]⟩, .bool false, .string ⟨#[]⟩] 29)).heap.size, 0, none⟩) 1 1) (((w17.drew.alloc (.cells #[.string ⟨#[97]⟩, .string ⟨#[112]⟩, .int .i64 1, .bool false, .string ⟨#[99]⟩, .bool false, .string ⟨#[]⟩, .bool false, .string ⟨#[]⟩, .bool false, .string ⟨#[]⟩] 29)).alloc (.cells #[.string ⟨#[98]⟩, .string ⟨#[113]⟩, .int .i64 1, .bool false, .string ⟨#[100]⟩, .bool false, .string ⟨#[]⟩, .bool false, .string ⟨#[]⟩, .bool false, .string ⟨#[]⟩, .int .i64 (-1), .slice none 0 0] 41))) rfl rfl (by kernel_rfl) (by kernel_rfl) (by kernel_rfl) rfl (by kernel_rfl) (ownsteps_any _ tinyS _ (snext HT.out (hS17.trans hc1)) (by decide) (fun t h => by have := (tiny_fitsS t h).2; omega)) rfl (by kernel_rfl) (hc1.alloc _) ?_ ?_
      · rintro e wx51 ⟨vn, rfl, N, eN, hN, hb⟩
        have hc2 : Since w17 wx51 := hc1.trans hb
        replace hB2 := hB2.next hb
        replace hN := hN.base (hc1).size
        obtain ⟨un0, un1, rfl⟩ := stps_two eN
        obtain ⟨an, cn, rfl⟩ := own_slice hN.row
        clear hb
        refine ⟨_, rfl, hc2, ?_⟩
        have hc3 : Since w17 (wx51.alloc (.cells #[.string ⟨#[98]⟩, .string ⟨#[113]⟩, .int .i64 1, .bool false, .string ⟨#[100]⟩, .bool false, .string ⟨#[]⟩, .bool false, .string ⟨#[]⟩, .bool false, .string ⟨#[]⟩, .int .i64 (-1), .slice none 0 0] 41)) := hc2.alloc _
        replace hB2 := hB2.next ((Since.refl wx51).alloc (.cells #[.string ⟨#[98]⟩, .string ⟨#[113]⟩, .int .i64 1, .bool false, .string ⟨#[100]⟩, .bool false, .string ⟨#[]⟩, .bool false, .string ⟨#[]⟩, .bool false, .string ⟨#[]⟩, .int .i64 (-1), .slice none 0 0] 41))
        replace hN := hN.next ((Since.refl wx51).alloc (.cells #[.string ⟨#[98]⟩, .string ⟨#[113]⟩, .int .i64 1, .bool false, .string ⟨#[100]⟩, .bool false, .string ⟨#[]⟩, .bool false, .string ⟨#[]⟩, .bool false, .string ⟨#[]⟩, .int .i64 (-1), .slice none 0 0] 41))
        refine hx_make (i := 8) (oi := _) (.slice (some ⟨wx51.heap.size, 0, none⟩) 1 1) (wx51.alloc (.cells #[.string ⟨#[98]⟩, .string ⟨#[113]⟩, .int .i64 1, .bool false, .string ⟨#[100]⟩, .bool false, .string ⟨#[]⟩, .bool false, .string ⟨#[]⟩, .bool false, .string ⟨#[]⟩, .int .i64 (-1), .slice none 0 0] 41)) rfl rfl (by kernel_rfl) (by kernel_rfl) (by kernel_rfl) hc3 ?_
        have hB1 : Cel (wx51.alloc (.cells #[.string ⟨#[98]⟩, .string ⟨#[113]⟩, .int .i64 1, .bool false, .string ⟨#[100]⟩, .bool false, .string ⟨#[]⟩, .bool false, .string ⟨#[]⟩, .bool false, .string ⟨#[]⟩, .int .i64 (-1), .slice none 0 0] 41)) wx51.heap.size #[.string ⟨#[98]⟩, .string ⟨#[113]⟩, .int .i64 1, .bool false, .string ⟨#[100]⟩, .bool false, .string ⟨#[]⟩, .bool false, .string ⟨#[]⟩, .bool false, .string ⟨#[]⟩, .int .i64 (-1), .slice none 0 0] 41 := heap_alloc_new _ _
        refine hx_append (i := 9) (oi := _) (.tmp 104) (.tmp 109) 24 w17.heap.size 41 i2 (.agg #[.string ByteArray.empty, .string ByteArray.empty, .int .i64 0, .bool false, .string ByteArray.empty, .bool false, .string ByteArray.empty, .bool false, .string ByteArray.empty, .bool false, .string ByteArray.empty, .int .i64 0, .slice none 0 0]) 13 168 (.slice an 2 cn) 2 _ _ (some ⟨wx51.heap.size, 0, none⟩) 1 1 (#[.string ⟨#[98]⟩, .string ⟨#[113]⟩, .int .i64 1, .bool false, .string ⟨#[100]⟩, .bool false, .string ⟨#[]⟩, .bool false, .string ⟨#[]⟩, .bool false, .string ⟨#[]⟩, .int .i64 (-1), .slice none 0 0] : Array Value).toList rfl rfl (by kernel_rfl) (by kernel_rfl) rfl Tryd.underlying24 I2.out.1 I2.out.2.1 I2.out.2.2.1 I2.out.2.2.2 rfl (by decide) (by kernel_rfl) hN.row (by kernel_rfl) (reads_cel hB1 rfl) (by simp [Value.oneCell']) (by decide) (by decide) (hc3).size ?_
        intro v8 w8 hown8 hg8 _
        have hc4 : Since w17 w8 := Below.grown hc3 hg8 (hc3).size (own_ge hN.row)
        have hSR : SRow w8 v8 (tinyS ++ [(tinyQ, -1, [])]) := nests_plus (s := (tinyQ, -1, [])) hN hown8 rfl hg8 (KRow.nil _ _)
        replace hB2 := cel_own hB2 hN.row (by decide) hg8
        clear hown8 hg8 hN hB1
        obtain ⟨a8, c8, rfl⟩ := hSR.slice
        refine ⟨hc4, ?_⟩
        have hQ7 := HCHK.out _ (hS17.trans hc4) _ _ (tinyF ++ [tinyQ]) _ _ (tinyS ++ [(tinyQ, -1, [])]) _ 1 [tinyG] (anext HL17.out hc4) hSR (arow_cel hB2 rfl (Nat.le_refl _)) (by decide) (by decide) (by decide) (fun a h => by rcases List.mem_append.1 h with h | h; exact tiny_fitsF a h; obtain rfl := List.mem_singleton.1 h; exact fits_Q) tiny_fitsG (fits_snoc tiny_fitsS ⟨fits_Q, by decide⟩)
        rw [nm_7] at hQ7
        refine hx_call (i := 12) (oi := _) 15 #[.slice va tinyC.length 1, .slice (some ⟨bl, ol, none⟩) 2 cl, .slice a8 3 c8, .slice (some ⟨w17.drew.heap.size, 0, none⟩) 1 1] rfl rfl (by kernel_rfl) (by kernel_rfl) (by kernel_rfl) (hQ7) ?_
        rintro e wx52 ⟨rfl, hb⟩
        have hc5 : Since w17 wx52 := hc4.trans hb
        replace hB2 := hB2.next hb
        replace hSR := snext hSR hb
        clear hb
        refine ⟨_, rfl, hc5, ?_⟩
        refine hx_take (i := 13) (oi := _) (v := .tuple #[.int .i64 2, .int .i64 15]) rfl rfl hns (by kernel_rfl) (by kernel_rfl) hQ (by kernel_rfl) (fun _ _ => by kernel_rfl) hc5 ?_
        refine hx_take (i := 14) (oi := _) (v := .int .i64 2) rfl rfl hns (by kernel_rfl) (by kernel_rfl) hQ (by kernel_rfl) (fun _ _ => by kernel_rfl) hc5 ?_
        refine hx_take (i := 15) (oi := _) (v := .int .i64 15) rfl rfl hns (by kernel_rfl) (by kernel_rfl) hQ (by kernel_rfl) (fun _ _ => by kernel_rfl) hc5 ?_
        refine hx_take (i := 16) (oi := _) (v := .int .i64 2) rfl rfl hns (by kernel_rfl) (by kernel_rfl) hQ (by kernel_rfl) (fun _ _ => by kernel_rfl) hc5 ?_
        refine hx_take (i := 17) (oi := _) (v := .int .i64 15) rfl rfl hns (by kernel_rfl) (by kernel_rfl) hQ (by kernel_rfl) (fun _ _ => by kernel_rfl) hc5 ?_
        refine wpAnyH_done (by kernel_rfl) ?_ _
        clear hns hQ
        simp only [List.set_cons_zero, List.set_cons_succ]
        go_wp2_with fail
        go_meet
        case rel => exact ⟨rfl, rfl, hc5⟩
      · have hc2 : Since w17 ((w17.drew.alloc (.cells #[.string ⟨#[97]⟩, .string ⟨#[112]⟩, .int .i64 1, .bool false, .string ⟨#[99]⟩, .bool false, .string ⟨#[]⟩, .bool false, .string ⟨#[]⟩, .bool false, .string ⟨#[]⟩] 29)).alloc (.cells #[.string ⟨#[98]⟩, .string ⟨#[113]⟩, .int .i64 1, .bool false, .string ⟨#[100]⟩, .bool false, .string ⟨#[]⟩, .bool false, .string ⟨#[]⟩, .bool false, .string ⟨#[]⟩, .int .i64 (-1), .slice none 0 0] 41)) := hc1.alloc _
        replace hB2 := hB2.next ((Since.refl (w17.drew.alloc (.cells #[.string ⟨#[97]⟩, .string ⟨#[112]⟩, .int .i64 1, .bool false, .string ⟨#[99]⟩, .bool false, .string ⟨#[]⟩, .bool false, .string ⟨#[]⟩, .bool false, .string ⟨#[]⟩] 29))).alloc (.cells #[.string ⟨#[98]⟩, .string ⟨#[113]⟩, .int .i64 1, .bool false, .string ⟨#[100]⟩, .bool false, .string ⟨#[]⟩, .bool false, .string ⟨#[]⟩, .bool false, .string ⟨#[]⟩, .int .i64 (-1), .slice none 0 0] 41))
        have hB1 : Cel ((w17.drew.alloc (.cells #[.string ⟨#[97]⟩, .string ⟨#[112]⟩, .int .i64 1, .bool false, .string ⟨#[99]⟩, .bool false, .string ⟨#[]⟩, .bool false, .string ⟨#[]⟩, .bool false, .string ⟨#[]⟩] 29)).alloc (.cells #[.string ⟨#[98]⟩, .string ⟨#[113]⟩, .int .i64 1, .bool false, .string ⟨#[100]⟩, .bool false, .string ⟨#[]⟩, .bool false, .string ⟨#[]⟩, .bool false, .string ⟨#[]⟩, .int .i64 (-1), .slice none 0 0] 41)) (w17.drew.alloc (.cells #[.string ⟨#[97]⟩, .string ⟨#[112]⟩, .int .i64 1, .bool false, .string ⟨#[99]⟩, .bool false, .string ⟨#[]⟩, .bool false, .string ⟨#[]⟩, .bool false, .string ⟨#[]⟩] 29)).heap.size #[.string ⟨#[98]⟩, .string ⟨#[113]⟩, .int .i64 1, .bool false, .string ⟨#[100]⟩, .bool false, .string ⟨#[]⟩, .bool false, .string ⟨#[]⟩, .bool false, .string ⟨#[]⟩, .int .i64 (-1), .slice none 0 0] 41 := heap_alloc_new _ _
        refine hx_call (i := 3) (oi := _) 11 #[.slice (some ⟨bs, os, none⟩) tinyS.length 2] rfl rfl (by kernel_rfl) (by kernel_rfl) (by kernel_rfl) (ownsteps_any _ tinyS _ (snext HT.out (hS17.trans hc2)) (by decide) (fun t h => by have := (tiny_fitsS t h).2; omega)) ?_
        rintro e wx51 ⟨vn, rfl, N, eN, hN, hb⟩
        have hc3 : Since w17 wx51 := hc2.trans hb
        replace hB2 := hB2.next hb
        replace hB1 := hB1.next hb
        replace hN := hN.base (hc2).size
        obtain ⟨un0, un1, rfl⟩ := stps_two eN
        obtain ⟨an, cn, rfl⟩ := own_slice hN.row
        clear hb
        refine ⟨_, rfl, hc3, ?_⟩
        refine hx_append (i := 9) (oi := _) (.tmp 104) (.tmp 109) 24 w17.heap.size 41 i2 (.agg #[.string ByteArray.empty, .string ByteArray.empty, .int .i64 0, .bool false, .string ByteArray.empty, .bool false, .string ByteArray.empty, .bool false, .string ByteArray.empty, .bool false, .string ByteArray.empty, .int .i64 0, .slice none 0 0]) 13 168 (.slice an 2 cn) 2 _ _ (some ⟨(w17.drew.alloc (.cells #[.string ⟨#[97]⟩, .string ⟨#[112]⟩, .int .i64 1, .bool false, .string ⟨#[99]⟩, .bool false, .string ⟨#[]⟩, .bool false, .string ⟨#[]⟩, .bool false, .string ⟨#[]⟩] 29)).heap.size, 0, none⟩) 1 1 (#[.string ⟨#[98]⟩, .string ⟨#[113]⟩, .int .i64 1, .bool false, .string ⟨#[100]⟩, .bool false, .string ⟨#[]⟩, .bool false, .string ⟨#[]⟩, .bool false, .string ⟨#[]⟩, .int .i64 (-1), .slice none 0 0] : Array Value).toList rfl rfl (by kernel_rfl) (by kernel_rfl) rfl Tryd.underlying24 I2.out.1 I2.out.2.1 I2.out.2.2.1 I2.out.2.2.2 rfl (by decide) (by kernel_rfl) hN.row (by kernel_rfl) (reads_cel hB1 rfl) (by simp [Value.oneCell']) (by decide) (by decide) (hc3).size ?_
        intro v8 w8 hown8 hg8 _
        have hc4 : Since w17 w8 := Below.grown hc3 hg8 (hc3).size (own_ge hN.row)
        have hSR : SRow w8 v8 (tinyS ++ [(tinyQ, -1, [])]) := nests_plus (s := (tinyQ, -1, [])) hN hown8 rfl hg8 (KRow.nil _ _)
        replace hB2 := cel_own hB2 hN.row (by decide) hg8
        clear hown8 hg8 hN hB1
        obtain ⟨a8, c8, rfl⟩ := hSR.slice
        refine ⟨hc4, ?_⟩
        have hQ7 := HCHK.out _ (hS17.trans hc4) _ _ (tinyF ++ [tinyQ]) _ _ (tinyS ++ [(tinyQ, -1, [])]) _ 1 [tinyG] (anext HL17.out hc4) hSR (arow_cel hB2 rfl (Nat.le_refl _)) (by decide) (by decide) (by decide) (fun a h => by rcases List.mem_append.1 h with h | h; exact tiny_fitsF a h; obtain rfl := List.mem_singleton.1 h; exact fits_Q) tiny_fitsG (fits_snoc tiny_fitsS ⟨fits_Q, by decide⟩)
        rw [nm_7] at hQ7
        refine hx_call (i := 12) (oi := _) 15 #[.slice va tinyC.length 1, .slice (some ⟨bl, ol, none⟩) 2 cl, .slice a8 3 c8, .slice (some ⟨w17.drew.heap.size, 0, none⟩) 1 1] rfl rfl (by kernel_rfl) (by kernel_rfl) (by kernel_rfl) (hQ7) ?_
        rintro e wx52 ⟨rfl, hb⟩
        have hc5 : Since w17 wx52 := hc4.trans hb
        replace hB2 := hB2.next hb
        replace hSR := snext hSR hb
        clear hb
        refine ⟨_, rfl, hc5, ?_⟩
        refine hx_take (i := 13) (oi := _) (v := .tuple #[.int .i64 2, .int .i64 15]) rfl rfl hns (by kernel_rfl) (by kernel_rfl) hQ (by kernel_rfl) (fun _ _ => by kernel_rfl) hc5 ?_
        refine hx_take (i := 14) (oi := _) (v := .int .i64 2) rfl rfl hns (by kernel_rfl) (by kernel_rfl) hQ (by kernel_rfl) (fun _ _ => by kernel_rfl) hc5 ?_
        refine hx_take (i := 15) (oi := _) (v := .int .i64 15) rfl rfl hns (by kernel_rfl) (by kernel_rfl) hQ (by kernel_rfl) (fun _ _ => by kernel_rfl) hc5 ?_
        refine hx_take (i := 16) (oi := _) (v := .int .i64 2) rfl rfl hns (by kernel_rfl) (by kernel_rfl) hQ (by kernel_rfl) (fun _ _ => by kernel_rfl) hc5 ?_
        refine hx_take (i := 17) (oi := _) (v := .int .i64 15) rfl rfl hns (by kernel_rfl) (by kernel_rfl) hQ (by kernel_rfl) (fun _ _ => by kernel_rfl) hc5 ?_
        refine wpAnyH_done (by kernel_rfl) ?_ _
        clear hns hQ
        simp only [List.set_cons_zero, List.set_cons_succ]
        go_wp2_with fail
        go_meet
        case rel => exact ⟨rfl, rfl, hc5⟩
  case rest =>
  obtain ⟨rfl, rfl, hS18⟩ := hcut
  have hSx := hS17.trans hS18
  have sA0 : wc.cell? ⟨g4, 0, none⟩ = some (.string ⟨#[97]⟩) := (h4.next hSx) 0 _ rfl
  have sA1 : wc.cell? ⟨g4, 1, none⟩ = some (.string ⟨#[112]⟩) := (h4.next hSx) 1 _ rfl
  have sA2 : wc.cell? ⟨g4, 2, none⟩ = some (.int .i64 1) := (h4.next hSx) 2 _ rfl
  have sA3 : wc.cell? ⟨g4, 3, none⟩ = some (.bool false) := (h4.next hSx) 3 _ rfl
  have sA4 : wc.cell? ⟨g4, 4, none⟩ = some (.string ⟨#[99]⟩) := (h4.next hSx) 4 _ rfl
  have sA5 : wc.cell? ⟨g4, 5, none⟩ = some (.bool false) := (h4.next hSx) 5 _ rfl
  have sA6 : wc.cell? ⟨g4, 6, none⟩ = some (.string ⟨#[]⟩) := (h4.next hSx) 6 _ rfl
  have sA7 : wc.cell? ⟨g4, 7, none⟩ = some (.bool false) := (h4.next hSx) 7 _ rfl
  have sA8 : wc.cell? ⟨g4, 8, none⟩ = some (.string ⟨#[]⟩) := (h4.next hSx) 8 _ rfl
  have sA9 : wc.cell? ⟨g4, 9, none⟩ = some (.bool false) := (h4.next hSx) 9 _ rfl
  have sA10 : wc.cell? ⟨g4, 10, none⟩ = some (.string ⟨#[]⟩) := (h4.next hSx) 10 _ rfl
  clear kA17 h417 kL HL17 I2 I5 HKU kA
  have HA1 : Hid (∀ W, Since w2 W → Calls Tryd.prog 18 #[.slice va tinyC.length 1, .slice vf tinyF.length 1, .slice (some ⟨bs, os, none⟩) tinyS.length 2, .agg #[.string ⟨#[97]⟩, .string ⟨#[112]⟩, .int .i64 1, .bool false, .string ⟨#[99]⟩, .bool false, .string ⟨#[]⟩, .bool false, .string ⟨#[]⟩, .bool false, .string ⟨#[]⟩]] W fun e w' => e = .returned (.bool true) ∧ Since W w') := by
    intro W h
    have hq := kaccepts_any va 1 tinyC vf 1 tinyF (some ⟨bs, os, none⟩) 2 tinyS [97] [112] 1 false false false false [99] [] [] [] W (rnext HC.out h) (anext HF.out h) (snext HT.out h) (by decide) (by decide) (by decide) tiny_lenC tiny_fitsC tiny_fitsF tiny_fitsS (HE.out.next h)
    rw [show accB tinyC tinyF tinyS ((([97], [112], 1, (false, [99]), (false, []), (false, []), (false, [])) : Atm)) = true from nm_8] at hq
    exact hq
  have HA2 : Hid (∀ W, Since w2 W → Calls Tryd.prog 18 #[.slice va tinyC.length 1, .slice none 0 0, .slice (some ⟨bs, os, none⟩) tinyS.length 2, .agg #[.string ⟨#[97]⟩, .string ⟨#[112]⟩, .int .i64 1, .bool false, .string ⟨#[99]⟩, .bool false, .string ⟨#[]⟩, .bool false, .string ⟨#[]⟩, .bool false, .string ⟨#[]⟩]] W fun e w' => e = .returned (.bool false) ∧ Since W w') := by
    intro W h
    have hq := kaccepts_any va 1 tinyC none 0 [] (some ⟨bs, os, none⟩) 2 tinyS [97] [112] 1 false false false false [99] [] [] [] W (rnext HC.out h) (KRow.nil _ _) (snext HT.out h) (by decide) (by decide) (by decide) tiny_lenC tiny_fitsC (fun _ h => by cases h) tiny_fitsS (HE.out.next h)
    rw [show accB tinyC [] tinyS ((([97], [112], 1, (false, [99]), (false, []), (false, []), (false, [])) : Atm)) = false from nm_9] at hq
    exact hq
  have HA3 : Hid (∀ W, Since w2 W → Calls Tryd.prog 18 #[.slice va tinyC.length 1, .slice vf tinyF.length 1, .slice (some ⟨bs, os, none⟩) tinyS.length 2, .agg #[.string ⟨#[97]⟩, .string ⟨#[112]⟩, .int .i64 1, .bool false, .string ⟨#[100]⟩, .bool false, .string ⟨#[]⟩, .bool false, .string ⟨#[]⟩, .bool false, .string ⟨#[]⟩]] W fun e w' => e = .returned (.bool false) ∧ Since W w') := by
    intro W h
    have hq := kaccepts_any va 1 tinyC vf 1 tinyF (some ⟨bs, os, none⟩) 2 tinyS [97] [112] 1 false false false false [100] [] [] [] W (rnext HC.out h) (anext HF.out h) (snext HT.out h) (by decide) (by decide) (by decide) tiny_lenC tiny_fitsC tiny_fitsF tiny_fitsS (HE.out.next h)
    rw [show accB tinyC tinyF tinyS ((([97], [112], 1, (false, [100]), (false, []), (false, []), (false, [])) : Atm)) = false from nm_10] at hq
    exact hq
  go_wp2_with fail
  refine (HA1.out _ hSx).mono ?_
  rintro e w19 ⟨rfl, hb19⟩
  have hS19 := hSx.trans hb19
  have sB0 : w19.cell? ⟨g4, 0, none⟩ = some (.string ⟨#[97]⟩) := (h4.next hS19) 0 _ rfl
  have sB1 : w19.cell? ⟨g4, 1, none⟩ = some (.string ⟨#[112]⟩) := (h4.next hS19) 1 _ rfl
  have sB2 : w19.cell? ⟨g4, 2, none⟩ = some (.int .i64 1) := (h4.next hS19) 2 _ rfl
  have sB3 : w19.cell? ⟨g4, 3, none⟩ = some (.bool false) := (h4.next hS19) 3 _ rfl
  have sB4 : w19.cell? ⟨g4, 4, none⟩ = some (.string ⟨#[99]⟩) := (h4.next hS19) 4 _ rfl
  have sB5 : w19.cell? ⟨g4, 5, none⟩ = some (.bool false) := (h4.next hS19) 5 _ rfl
  have sB6 : w19.cell? ⟨g4, 6, none⟩ = some (.string ⟨#[]⟩) := (h4.next hS19) 6 _ rfl
  have sB7 : w19.cell? ⟨g4, 7, none⟩ = some (.bool false) := (h4.next hS19) 7 _ rfl
  have sB8 : w19.cell? ⟨g4, 8, none⟩ = some (.string ⟨#[]⟩) := (h4.next hS19) 8 _ rfl
  have sB9 : w19.cell? ⟨g4, 9, none⟩ = some (.bool false) := (h4.next hS19) 9 _ rfl
  have sB10 : w19.cell? ⟨g4, 10, none⟩ = some (.string ⟨#[]⟩) := (h4.next hS19) 10 _ rfl
  clear sA0 sA1 sA2 sA3 sA4 sA5 sA6 sA7 sA8 sA9 sA10 hb19 hSx HA1
  go_wp2_with fail
  refine (HA2.out _ hS19).mono ?_
  rintro e w20 ⟨rfl, hb20⟩
  have hS20 := hS19.trans hb20
  clear sB0 sB1 sB2 sB3 sB4 sB5 sB6 sB7 sB8 sB9 sB10 hb20 hS19 HA2
  go_wp2_with fail
  refine (at_any [97] [112] [100] _).mono ?_
  rintro e w21 ⟨rfl, hb21⟩
  have hS21 := hS20.trans hb21
  go_wp2_with fail
  refine (HA3.out _ hS21).mono ?_
  rintro e w22 ⟨rfl, hb22⟩
  have hS22 := hS21.trans hb22
  clear hb21 hb22 hS20 hS21 HA3
  go_wp2_with fail
  refine (kcited_any _ _ tinyS _ (snext HT.out hS22) (by decide) (fun t h => (tiny_fitsS t h).2)).mono ?_
  rintro e w23 ⟨q1, rfl, hq1, -, hb23⟩
  have hq2 := hq1.next ((Since.refl w23).alloc (.cells #[.int .i64 1, .int .i64 0] 3))
  have hq3 : Cel (w23.alloc (.cells #[.int .i64 1, .int .i64 0] 3)) w23.heap.size #[.int .i64 1, .int .i64 0] 3 := heap_alloc_new w23 _
  have HSM := Lib.hid (ksame_eq (.slice (some ⟨q1, 0, none⟩) 2 2) (.slice (some ⟨w23.heap.size, 0, none⟩) 2 2) [1, 0] _ (irow_cel (L := [1, 0]) (c := 2) hq2 (by kernel_rfl) (by decide)) (irow_cel (L := [1, 0]) (c := 2) hq3 rfl (by decide)) (by decide))
  have hS23 := (hS22.trans hb23).alloc (.cells #[.int .i64 1, .int .i64 0] 3)
  clear hq1 hq2 hq3 hb23 hS22
  go_wp2_with fail
  refine HSM.out.mono ?_
  rintro e w24 ⟨rfl, hb24⟩
  have hS24 := hS23.trans hb24
  clear hb24 HSM
  go_wp2_with fail
  refine (kcited_any none 0 ([] : List Stp) _ (KRow.nil _ _) (by decide) (fun _ h => by cases h)).mono ?_
  rintro e w25 ⟨q2, rfl, -, -, hb25⟩
  have hS25 := hS24.trans hb25
  clear hb25
  go_wp2_with fail
  go_ret
  exact ⟨rfl, hS.trans hS25⟩
end Go.Proofs.YtdlnmkdbjgbimaaDoor
