/- ParseBlanks of law 10: the walk. -/
import Derived.Test.YtnfjjckbgnieeaaGreatDoorPSp
import Derived.Test.YtnfjjckbgnieeaaGreatDoorParR
import Derived.Test.YtnfjjckbgnieeaaGreatDoorPBk
import Derived.Test.YtnfjjckbgnieeaaGreatDoorR9
import Derived.Test.YtnfjjckbgnieeaaGreatDoorPick
namespace Go.Proofs.YtnfjjckbgnieeaaGreatDoor
open Go.RowKit
attribute [local go_sem ↓] run_termEq' run_atomEq
attribute [local go_sem] eqA_self eqT_self

theorem cat_opK {o : Oper} {x y : Operand} {ev : Operand → Value} {a b c : List UInt8} (h : a ++ b = c) (hl : c.length ≤ 1000000) (ho : o.op = .binOp .add 9 x y 9) (hx : ev x = .string ⟨a.toArray⟩) (hy : ev y = .string ⟨b.toArray⟩) (W : World) :
    (execOp ev o).run Tryz.prog W = .ok (.value (.string ⟨c.toArray⟩)) W := by
  have k := cat_run2 h hl W
  simp only [execOp, ho]
  go_simp
theorem sep_cell {W : World} {g : Nat} {Ty : TypeId} (h : Cel W g #[.string ⟨#[32]⟩, .string ⟨#[10]⟩, .string ⟨#[9, 32, 13]⟩, .string ⟨#[37, 32, 97, 32, 114, 101, 109, 97, 114, 107, 46, 10]⟩] Ty) {r : Nat} (hr : r < 4) : W.cell? ⟨g, 0 + r, none⟩ = some (.string ⟨(sepB (r : Int)).toArray⟩) := by
  rw [Nat.zero_add]
  match r, hr with
  | 0, _ => exact h.cell 0
  | 1, _ => exact h.cell 1
  | 2, _ => exact h.cell 2
  | 3, _ => exact h.cell 3
set_option maxHeartbeats 1000000 in
theorem rall_whole (s : Txt) (w : World) (hs : s.length ≤ maxLen) : Calls Tryz.prog 22 #[.string ⟨s.toArray⟩] w (AllPost s w) := by
  by_cases h : s.length ≤ 65536
  · exact rall_any s w h
  · have g : (65536 : Int) < (s.length : Int) := by omega
    unfold maxLen at hs
    have ha : allL s = ([], 65536, 4) := by unfold allL; rw [if_pos (by omega)]
    have HT : Hid (Calls Tryz.prog 46 #[.string ⟨s.toArray⟩] w fun e w' => e = .returned (.tuple #[.slice none 0 0, .int .i64 65536, .int .i64 4]) ∧ Since w w') := by
      show Calls _ _ _ _ _
      clear ha h hs
      go_enter Tryz.func46, Tryz.ntmps46
      go_wp2_with fail
      go_ret3
      exact ⟨rfl, Since.refl _⟩
    have HK : Hid (∀ W, Since w W → AllPost s w (.returned (.tuple #[.slice none 0 0, .int .i64 65536, .int .i64 4])) W) := fun W hW => by
      refine ⟨.slice none 0 0, ?_, ?_, hW⟩
      · rw [ha]; rfl
      · rw [ha]; exact World.ownsRow_nil _ _ _ _
    clear ha h hs g
    go_enter Tryz.func22, Tryz.ntmps22
    go_wp2_with fail
    refine HT.out.mono ?_
    rintro e w1 ⟨rfl, hb⟩
    go_wp2_with fail
    go_ret3
    exact HK.out _ hb
set_option maxHeartbeats 8000000 in
set_option maxRecDepth 100000 in
theorem pblanks_any (s : Txt) (vb : Value) (B : List Int) (w : World) (hB : IRow w vb B) (hBb : ∀ y ∈ B, -9223372036854775808 ≤ y ∧ y ≤ 9223372036854775807) (hs : s.length ≤ maxLen) (hE : EnvT w) :
    Calls Tryz.prog 6 #[.string ⟨s.toArray⟩, vb] w fun e w' => e = .returned (.bool true) ∧ Since w w' := by
  obtain ⟨K, hK⟩ : ∃ K : Ending → World → Prop, Hid (K = fun e w' => e = .returned (.bool true) ∧ Since w w') := ⟨_, rfl⟩
  have hgood : Hid (∀ w', Since w w' → K (.returned (.bool true)) w') := fun w' h => by rw [hK.out]; exact ⟨rfl, h⟩
  rw [← hK.out]
  have HL : Hid (Calls Tryz.prog 10 #[] w fun e w' => e = .returned (.bool true) ∧ Since w w') := lives10_any w hE
  have HP : Hid (∀ (x : Txt), x.length ≤ maxLen → ∀ W, Since w W → Calls Tryz.prog 11 #[.string ⟨x.toArray⟩] W (PolPost x W)) := fun x hx W h => policy_any x hx W (hE.next h)
  have HG : Hid (∀ (x : Txt), x.length ≤ maxLen → ∀ W, Since w W → Calls Tryz.prog 24 #[.string ⟨x.toArray⟩] W fun e w' => e = .returned (.tuple #[.agg (atmC (oneL (some [63]) x).1), .int .i64 ((oneL (some [63]) x).2.1 : Int), .int .i64 (oneL (some [63]) x).2.2]) ∧ Since W w') := fun x hx W h => pub_goal_any x hx W (hE.next h)
  have HA := Lib.hid (rall_whole s)
  replace HA : Hid (∀ W, Calls Tryz.prog 22 #[.string ⟨s.toArray⟩] W (AllPost s W)) := fun W => HA.out W hs
  unfold AllPost at HA
  have HW := Lib.hid (@wds_len s)
  have HTK := Lib.hid (fun B => @blanks_toks s B)
  have HPO := Lib.hid (fun t => @blanks_policy s t)
  have HON := Lib.hid (fun t => @blanks_one (some [63]) s t)
  have HTM : Hid (s.length ≤ 1500 → (allL s).2.2 = 0 → (allL s).1.length ≤ 1500) := fun h1 h2 => by
    rw [allL_toks (by omega) h2]
    exact Nat.le_trans toks_many h1
  obtain ⟨R, hR⟩ : ∃ R, Hid (R = allL s) := ⟨_, rfl⟩
  rw [← hR.out] at HA HW HTK HPO HON HTM
  obtain ⟨TL, A0, er⟩ := R
  simp only at HA HW HTK HPO HON HTM
  have HSX := Lib.hid hs
  obtain ⟨n, hn⟩ : ∃ n : Nat, Hid (s.length = n) := ⟨_, rfl⟩
  have hn2 := hn.out
  obtain ⟨ba, bc, rfl⟩ := hB.slice
  have HBR := Lib.hid hB
  have HBB := Lib.hid hBb
  clear hE hK hR hs hB hBb
  go_enter Tryz.func6, Tryz.ntmps6
  go_wp2_with fail
  refine HL.out.mono ?_
  rintro e w2 ⟨rfl, hS2⟩
  go_wp2_with fail
  refine (HA.out w2).mono ?_
  rintro e w3 ⟨v, rfl, hown, hb⟩
  have hS3 := hS2.trans hb
  obtain ⟨ta, tc, rfl⟩ := own_slice hown
  have HTR := Lib.hid (own_tkrow hown)
  clear hb HA HL hown hS2
  by_cases gn : (1500 : Int) < (n : Int)
  · go_wp2_with fail
    exact hgood.out _ hS3
  by_cases he : ¬ er = 0
  · go_wp2_with fail
    exact hgood.out _ hS3
  replace he : er = 0 := by omega
  subst he
  by_cases hl : (B.length : Int) < (TL.length : Int)
  · go_wp2_with fail
    exact hgood.out _ hS3
  have hsn : s.length ≤ 1500 := by omega
  have hlB : TL.length ≤ B.length := by omega
  have hwl := Lib.hid (HW.out hsn rfl B)
  have htk := HTK.out B hsn rfl hlB
  have hTL := HTM.out hsn rfl
  obtain ⟨hG0, hGt⟩ := htk
  have hpo := HPO.out _ rfl hG0 hGt
  have hon := HON.out _ rfl hG0 hGt
  have HGA := Lib.hid (glue_all TL B hlB)
  have HGM := Lib.hid (glue_more TL B)
  have HGT := Lib.hid (glue_take (wdsB TL B))
  have HPQ := Lib.hid hpo
  have HOQ := Lib.hid hon
  clear HW HTK HPO HON HTM hG0 hGt hpo hon
  go_wp2_with fail
  go_loopw [8, 9] (fun t i wr => ∃ k : Nat, k ≤ TL.length ∧ t = .string ⟨(glue ((wdsB TL B).take k)).toArray⟩ ∧ i = .int .i64 (k : Int) ∧ Since w3 wr) (fun _ i _ => TL.length - (intOf i).toNat)
  case atStart => exact ⟨0, Nat.zero_le _, rfl, rfl, Since.refl _⟩
  case round =>
  rename World => w4
  obtain ⟨k, hk, rfl, rfl, hb4⟩ := hrel
  by_cases hlt : k < TL.length
  · have hlt2 : (k : Int) < (TL.length : Int) := Int.ofNat_lt.2 hlt
    have hlt0 : (0 : Int) ≤ (k : Int) := Int.natCast_nonneg k
    have hkB : k < B.length := by omega
    have hk1 : wrap64 ((k : Int) + 1) = (k : Int) + 1 := IntWalk.wrap64_in _ (by omega)
    obtain ⟨b, o, e1, hc, hat⟩ := HTR.out.get (by omega)
    obtain ⟨d, p, e2, hd, hau⟩ := HBR.out.get (by omega)
    have d1 := (hat k hlt).2.1
    have d2 : w.cell? ⟨d, p + k * 1, none⟩ = some (.int .i64 B[k]) := hau k hkB
    rw [Nat.mul_one] at d2
    have hgm := HGM.out k hlt hkB
    have hbb := HBB.out _ (List.getElem_mem hkB)
    have hgt : (glue ((wdsB TL B).take (k + 1))).length ≤ 19500 := Nat.le_trans (HGT.out (k + 1)) hwl.out
    obtain ⟨x, hx⟩ : ∃ x, Hid (x = (TL[k]).2.1) := ⟨(TL[k]).2.1, rfl⟩
    obtain ⟨y, hy⟩ : ∃ y, Hid (y = B[k]) := ⟨B[k], rfl⟩
    rw [← hx.out] at d1 hgm
    rw [← hy.out] at d2 hgm hbb
    obtain ⟨Z, hZ⟩ : ∃ z, Hid (z = glue ((wdsB TL B).take k)) := ⟨_, rfl⟩
    obtain ⟨Z2, hZ2⟩ : ∃ z, Hid (z = glue ((wdsB TL B).take (k + 1))) := ⟨_, rfl⟩
    rw [← hZ.out, ← hZ2.out] at hgm
    rw [← hZ2.out] at hgt
    rw [← hZ.out]
    obtain ⟨r, hr, hr4⟩ : ∃ r : Nat, Hid (y % 4 = (r : Int)) ∧ r < 4 := ⟨(y % 4).toNat, by show _ = _; omega, by omega⟩
    obtain ⟨q, hq⟩ : ∃ q, Hid (q = sepB (r : Int)) := ⟨_, rfl⟩
    obtain ⟨Z1, hZ1⟩ : ∃ z, Hid (Z ++ x = z) := ⟨_, rfl⟩
    rw [hr.out, ← hq.out, ← List.append_assoc, hZ1.out] at hgm
    have HC1 : Hid (Z ++ x = Z1 ∧ Z1.length ≤ 1000000) := by
      refine ⟨hZ1.out, ?_⟩
      have h := congrArg List.length hgm
      rw [List.length_append] at h
      omega
    have HC2 : Hid (Z1 ++ q = Z2 ∧ Z2.length ≤ 1000000) := ⟨hgm.symm, by omega⟩
    have HPK : Hid (∀ W, Calls Tryz.prog 23 #[.int .i64 y, .int .i64 4] W fun e w' => e = .returned (.int .i64 (r : Int)) ∧ Since W w') := fun W => by
      refine (pick_any y 4 W hbb.1 hbb.2 (by decide) (by decide)).mono ?_
      rintro e w' ⟨rfl, rfl⟩
      exact ⟨by rw [hr.out], Since.refl _⟩
    have HR4 := Lib.hid hr4
    have hX : At w4 b (o + k * 3 + 1) #[.string ⟨x.toArray⟩] := (At.one d1).next hb4
    have hY : At w4 d (p + k) #[.int .i64 y] := ((At.one d2).next hS3).next hb4
    subst e1 e2
    have HRG : Hid (∀ (a : Nat), a = k → Z2 = glue ((wdsB TL B).take (k + 1))) := fun _ _ => hZ2.out
    have HLK := Lib.hid hk1
    clear hgm hbb hgt hx hy hZ hr hZ1 d1 d2 hat hau hc hd hr4 hwl hTL hsn gn hl
    go_upto_region 10 with (fail)
    have hs0 : Since w4 w4.drew := (Since.refl _).drew
    refine hx_begin (S := fun W => Since w4 W) (by kernel_rfl) hs0 (by kernel_rfl) (fun _ _ _ _ _ h => h) (fun hns hQ => ?_)
    refine hx_take (i := 0) (oi := _) (v := .string ⟨Z.toArray⟩) rfl rfl hns (by kernel_rfl) (by kernel_rfl) hQ (by kernel_rfl) (fun _ _ => by kernel_rfl) hs0 ?_
    refine hx_take (i := 1) (oi := _) (v := .slice (some ⟨b, o, none⟩) TL.length tc) rfl rfl hns (by kernel_rfl) (by kernel_rfl) hQ (by kernel_rfl) (fun _ _ => by kernel_rfl) hs0 ?_
    refine hx_take (i := 2) (oi := _) (v := .int .i64 (k : Int)) rfl rfl hns (by kernel_rfl) (by kernel_rfl) hQ (by kernel_rfl) (fun _ _ => by kernel_rfl) hs0 ?_
    refine hx_take (i := 3) (oi := _) (v := .pointer (some ⟨b, o + k * 3, none⟩)) rfl rfl hns (by kernel_rfl) (by kernel_rfl) hQ (by kernel_rfl) (fun W _ => ix_sl (n := TL.length) (c := tc) (K := 3) rfl (by kernel_rfl) (by kernel_rfl) (by kernel_rfl) rfl hlt W) hs0 ?_
    refine hx_take (i := 4) (oi := _) (v := .pointer (some ⟨b, o + k * 3 + 1, none⟩)) rfl rfl hns (by kernel_rfl) (by kernel_rfl) hQ (by kernel_rfl) (fun _ _ => by kernel_rfl) hs0 ?_
    refine hx_take (i := 5) (oi := _) (v := .string ⟨x.toArray⟩) rfl rfl hns (by kernel_rfl) (by kernel_rfl) hQ (by kernel_rfl) (fun W hW => ld_one rfl (by kernel_rfl) (by kernel_rfl) W (hX.next hW 0 _ rfl)) hs0 ?_
    refine hx_take (i := 6) (oi := _) (v := .string ⟨Z1.toArray⟩) rfl rfl hns (by kernel_rfl) (by kernel_rfl) hQ (by kernel_rfl) (fun W _ => cat_opK HC1.out.1 HC1.out.2 rfl (by kernel_rfl) (by kernel_rfl) W) hs0 ?_
    refine hx_take (i := 8) (oi := _) (v := .slice (some ⟨d, p, none⟩) B.length bc) rfl rfl hns (by kernel_rfl) (by kernel_rfl) hQ (by kernel_rfl) (fun _ _ => by kernel_rfl) hs0 ?_
    refine hx_take (i := 9) (oi := _) (v := .int .i64 (k : Int)) rfl rfl hns (by kernel_rfl) (by kernel_rfl) hQ (by kernel_rfl) (fun _ _ => by kernel_rfl) hs0 ?_
    refine hx_take (i := 10) (oi := _) (v := .pointer (some ⟨d, p + k, none⟩)) rfl rfl hns (by kernel_rfl) (by kernel_rfl) hQ (by kernel_rfl) (fun W _ => ix_sl1 (n := B.length) (c := bc) rfl (by kernel_rfl) (by kernel_rfl) (by kernel_rfl) rfl hkB W) hs0 ?_
    refine hx_take (i := 11) (oi := _) (v := .int .i64 y) rfl rfl hns (by kernel_rfl) (by kernel_rfl) hQ (by kernel_rfl) (fun W hW => ld_one rfl (by kernel_rfl) (by kernel_rfl) W (hY.next hW 0 _ rfl)) hs0 ?_
    refine hx_two_vc (i := 7) (j := 12) (.slice (some ⟨w4.drew.heap.size, 0, none⟩) 4 4) ((w4.drew.alloc (.cells #[.string ⟨#[32]⟩, .string ⟨#[10]⟩, .string ⟨#[9, 32, 13]⟩, .string ⟨#[37, 32, 97, 32, 114, 101, 109, 97, 114, 107, 46, 10]⟩] 9))) 23 #[.int .i64 y, .int .i64 4] rfl rfl (by kernel_rfl) (by kernel_rfl) (by kernel_rfl) rfl (by kernel_rfl) (hs0.alloc _) rfl (by kernel_rfl) (HPK.out _) ?_ ?_
    · have hs1 : Since w4 (w4.drew.alloc (.cells #[.string ⟨#[32]⟩, .string ⟨#[10]⟩, .string ⟨#[9, 32, 13]⟩, .string ⟨#[37, 32, 97, 32, 114, 101, 109, 97, 114, 107, 46, 10]⟩] 9)) := hs0.alloc _
      have hKB : Cel (w4.drew.alloc (.cells #[.string ⟨#[32]⟩, .string ⟨#[10]⟩, .string ⟨#[9, 32, 13]⟩, .string ⟨#[37, 32, 97, 32, 114, 101, 109, 97, 114, 107, 46, 10]⟩] 9)) w4.drew.heap.size #[.string ⟨#[32]⟩, .string ⟨#[10]⟩, .string ⟨#[9, 32, 13]⟩, .string ⟨#[37, 32, 97, 32, 114, 101, 109, 97, 114, 107, 46, 10]⟩] 9 := heap_alloc_new _ _
      refine hx_call (i := 12) (oi := _) 23 #[.int .i64 y, .int .i64 4] rfl rfl (by kernel_rfl) (by kernel_rfl) (by kernel_rfl) (HPK.out _) ?_
      rintro e wx51 ⟨rfl, hb⟩
      have hs2 : Since w4 wx51 := hs1.trans hb
      replace hKB := hKB.next hb
      clear hb
      refine ⟨_, rfl, hs2, ?_⟩
      refine hx_take (i := 13) (oi := _) (v := .pointer (some ⟨w4.drew.heap.size, 0 + r, none⟩)) rfl rfl hns (by kernel_rfl) (by kernel_rfl) hQ (by kernel_rfl) (fun W _ => ix_sl1 (n := 4) (c := 4) rfl (by kernel_rfl) (by kernel_rfl) (by kernel_rfl) rfl HR4.out W) hs2 ?_
      refine hx_make (i := 14) (oi := _) (.string ⟨q.toArray⟩) wx51 rfl rfl (by kernel_rfl) (by kernel_rfl) (ld_one rfl (by kernel_rfl) (by kernel_rfl) wx51 (by rw [hq.out]; exact sep_cell hKB HR4.out)) hs2 ?_
      refine hx_take (i := 15) (oi := _) (v := .string ⟨Z2.toArray⟩) rfl rfl hns (by kernel_rfl) (by kernel_rfl) hQ (by kernel_rfl) (fun W _ => cat_opK HC2.out.1 HC2.out.2 rfl (by kernel_rfl) (by kernel_rfl) W) hs2 ?_
      refine hx_take (i := 16) (oi := _) (v := .string ⟨Z2.toArray⟩) rfl rfl hns (by kernel_rfl) (by kernel_rfl) hQ (by kernel_rfl) (fun _ _ => by kernel_rfl) hs2 ?_
      refine wpAnyH_done (by kernel_rfl) ?_ _
      clear hns hQ
      simp only [List.set_cons_zero, List.set_cons_succ]
      rw [HRG.out k rfl]
      have hLAST := hs2
      clear hX hY
      go_wp2_with fail
      go_roundw
      case rel => exact ⟨k + 1, hlt, rfl, congrArg (Value.int .i64) (HLK.out.trans (cast_step k)), hb4.trans hLAST⟩
      case measure => rw [intOf_int, intOf_int, HLK.out]; exact meas_step hlt
    · rintro e wx51 ⟨rfl, hb⟩
      have hs1 : Since w4 wx51 := hs0.trans hb
      clear hb
      refine ⟨_, rfl, hs1, ?_⟩
      have hs2 : Since w4 (wx51.alloc (.cells #[.string ⟨#[32]⟩, .string ⟨#[10]⟩, .string ⟨#[9, 32, 13]⟩, .string ⟨#[37, 32, 97, 32, 114, 101, 109, 97, 114, 107, 46, 10]⟩] 9)) := hs1.alloc _
      refine hx_make (i := 7) (oi := _) (.slice (some ⟨wx51.heap.size, 0, none⟩) 4 4) (wx51.alloc (.cells #[.string ⟨#[32]⟩, .string ⟨#[10]⟩, .string ⟨#[9, 32, 13]⟩, .string ⟨#[37, 32, 97, 32, 114, 101, 109, 97, 114, 107, 46, 10]⟩] 9)) rfl rfl (by kernel_rfl) (by kernel_rfl) (by kernel_rfl) hs2 ?_
      have hKB : Cel (wx51.alloc (.cells #[.string ⟨#[32]⟩, .string ⟨#[10]⟩, .string ⟨#[9, 32, 13]⟩, .string ⟨#[37, 32, 97, 32, 114, 101, 109, 97, 114, 107, 46, 10]⟩] 9)) wx51.heap.size #[.string ⟨#[32]⟩, .string ⟨#[10]⟩, .string ⟨#[9, 32, 13]⟩, .string ⟨#[37, 32, 97, 32, 114, 101, 109, 97, 114, 107, 46, 10]⟩] 9 := heap_alloc_new _ _
      refine hx_take (i := 13) (oi := _) (v := .pointer (some ⟨wx51.heap.size, 0 + r, none⟩)) rfl rfl hns (by kernel_rfl) (by kernel_rfl) hQ (by kernel_rfl) (fun W _ => ix_sl1 (n := 4) (c := 4) rfl (by kernel_rfl) (by kernel_rfl) (by kernel_rfl) rfl HR4.out W) hs2 ?_
      refine hx_make (i := 14) (oi := _) (.string ⟨q.toArray⟩) (wx51.alloc (.cells #[.string ⟨#[32]⟩, .string ⟨#[10]⟩, .string ⟨#[9, 32, 13]⟩, .string ⟨#[37, 32, 97, 32, 114, 101, 109, 97, 114, 107, 46, 10]⟩] 9)) rfl rfl (by kernel_rfl) (by kernel_rfl) (ld_one rfl (by kernel_rfl) (by kernel_rfl) (wx51.alloc (.cells #[.string ⟨#[32]⟩, .string ⟨#[10]⟩, .string ⟨#[9, 32, 13]⟩, .string ⟨#[37, 32, 97, 32, 114, 101, 109, 97, 114, 107, 46, 10]⟩] 9)) (by rw [hq.out]; exact sep_cell hKB HR4.out)) hs2 ?_
      refine hx_take (i := 15) (oi := _) (v := .string ⟨Z2.toArray⟩) rfl rfl hns (by kernel_rfl) (by kernel_rfl) hQ (by kernel_rfl) (fun W _ => cat_opK HC2.out.1 HC2.out.2 rfl (by kernel_rfl) (by kernel_rfl) W) hs2 ?_
      refine hx_take (i := 16) (oi := _) (v := .string ⟨Z2.toArray⟩) rfl rfl hns (by kernel_rfl) (by kernel_rfl) hQ (by kernel_rfl) (fun _ _ => by kernel_rfl) hs2 ?_
      refine wpAnyH_done (by kernel_rfl) ?_ _
      clear hns hQ
      simp only [List.set_cons_zero, List.set_cons_succ]
      rw [HRG.out k rfl]
      have hLAST := hs2
      clear hX hY
      go_wp2_with fail
      go_roundw
      case rel => exact ⟨k + 1, hlt, rfl, congrArg (Value.int .i64) (HLK.out.trans (cast_step k)), hb4.trans hLAST⟩
      case measure => rw [intOf_int, intOf_int, HLK.out]; exact meas_step hlt
  have hlt2 : ¬ (k : Int) < (TL.length : Int) := fun h => hlt (Int.ofNat_lt.1 h)
  have hkT : k = TL.length := by omega
  subst hkT
  rw [HGA.out]
  obtain ⟨G, hG⟩ : ∃ g, Hid (g = glue (wdsB TL B)) := ⟨_, rfl⟩
  rw [← hG.out] at hwl HPQ HOQ
  rw [← hG.out]
  have hGl : G.length ≤ maxLen := Nat.le_trans hwl.out (by decide)
  have hsl : s.length ≤ maxLen := HSX.out
  have HP1 : Hid (∀ W, Since w W → Calls Tryz.prog 11 #[.string ⟨s.toArray⟩] W (PolPost s W)) := HP.out s hsl
  have HP2 : Hid (∀ W, Since w W → Calls Tryz.prog 11 #[.string ⟨G.toArray⟩] W (PolPost G W)) := HP.out G hGl
  have HG1 := Lib.hid (HG.out s hsl)
  have HG2 := Lib.hid (HG.out G hGl)
  unfold PolPost at HP1 HP2
  have hpq := HPQ.out
  have hoq := HOQ.out
  obtain ⟨R1, hR1⟩ : ∃ R, Hid (R = policyL s) := ⟨_, rfl⟩
  obtain ⟨R2, hR2⟩ : ∃ R, Hid (R = policyL G) := ⟨_, rfl⟩
  obtain ⟨R3, hR3⟩ : ∃ R, Hid (R = oneL (some [63]) s) := ⟨_, rfl⟩
  obtain ⟨R4, hR4⟩ : ∃ R, Hid (R = oneL (some [63]) G) := ⟨_, rfl⟩
  rw [← hR1.out] at HP1 hpq
  rw [← hR2.out] at HP2 hpq
  rw [← hR3.out] at HG1 hoq
  rw [← hR4.out] at HG2 hoq
  obtain ⟨P1, at_, f⟩ := R1
  obtain ⟨P2, tx, f2⟩ := R2
  obtain ⟨⟨a_s, a_p, a_n, ⟨a_v0, a_l0⟩, ⟨a_v1, a_l1⟩, ⟨a_v2, a_l2⟩, ⟨a_v3, a_l3⟩⟩, pa, h⟩ := R3
  obtain ⟨a2, pb, h2⟩ := R4
  simp only at hpq hoq HP1 HP2 HG1 HG2
  obtain ⟨e1, e2, hz⟩ := hpq
  replace e1 := e1.symm
  replace e2 := e2.symm
  subst e1; subst e2
  obtain ⟨e1, e2⟩ := hoq
  subst e1; subst e2
  have HZ := Lib.hid hz
  replace HG1 : Hid (∀ W, Since w W → Calls Tryz.prog 24 #[.string ⟨s.toArray⟩] W fun e w' => e = .returned (.tuple #[.agg #[.string ⟨a_s.toArray⟩, .string ⟨a_p.toArray⟩, .int .i64 a_n, .bool a_v0, .string ⟨a_l0.toArray⟩, .bool a_v1, .string ⟨a_l1.toArray⟩, .bool a_v2, .string ⟨a_l2.toArray⟩, .bool a_v3, .string ⟨a_l3.toArray⟩], .int .i64 (pa : Int), .int .i64 h2]) ∧ Since W w') := HG1.out
  replace HG2 : Hid (∀ W, Since w W → Calls Tryz.prog 24 #[.string ⟨G.toArray⟩] W fun e w' => e = .returned (.tuple #[.agg #[.string ⟨a_s.toArray⟩, .string ⟨a_p.toArray⟩, .int .i64 a_n, .bool a_v0, .string ⟨a_l0.toArray⟩, .bool a_v1, .string ⟨a_l1.toArray⟩, .bool a_v2, .string ⟨a_l2.toArray⟩, .bool a_v3, .string ⟨a_l3.toArray⟩], .int .i64 (pb : Int), .int .i64 h2]) ∧ Since W w') := HG2.out
  have hS4 := hS3.trans hb4
  clear HPQ HOQ HP HG hR1 hR2 hR3 hR4 hG hwl hz hGl hsl HGA HGM HGT HBR HBB HTR HSX hTL hlB hsn hl gn hk hlt hlt2 hS3 hb4 hn2 hn
  go_wp2_with fail
  refine (HP1.out _ hS4).mono ?_
  rintro e w6 ⟨c3, c4, c5, c6, c7, c8, c9, C1, U1, G1, rfl, hO1, hb⟩
  have hS6 := hS4.trans hb
  clear hb HP1 hS4
  obtain ⟨pr, pd, cl, qu, bu, ru, gr⟩ := P1
  obtain ⟨a3, e3, a4, e4, a5, e5, a8, e8, a9, e9, v3, v4, v5, v6, v7, v8, v9⟩ := pol_cells2 hO1
  simp only at v3 v4 v5 v6 v7 v8 v9
  subst v3 v4 v5 v6 v7 v8 v9
  obtain ⟨w7, hw7⟩ : ∃ W, Hid (W = w6.alloc (.cells #[.slice a3 pr.length e3, .slice a4 pd.length e4, .slice a5 cl.length e5, .int .i64 qu, .int .i64 bu, .slice a8 ru.length e8, .slice a9 gr.length e9] 29)) := ⟨_, rfl⟩
  have hb : Since w6 w7 := by rw [hw7.out]; exact (Since.refl w6).alloc _
  have hB1 : Cel w7 w6.heap.size #[.slice a3 pr.length e3, .slice a4 pd.length e4, .slice a5 cl.length e5, .int .i64 qu, .int .i64 bu, .slice a8 ru.length e8, .slice a9 gr.length e9] 29 := by rw [hw7.out]; exact heap_alloc_new w6 _
  have hS7 := hS6.trans hb
  replace hO1 := hO1.next hb
  clear hb hS6
  go_upto_region 12 with (fail)
  rw [← hw7.out]
  obtain ⟨g1, hg1⟩ : ∃ g, Hid (g = w6.heap.size) := ⟨_, rfl⟩
  simp only [← hg1.out]
  rw [← hg1.out] at hB1
  clear hg1 hw7
  go_wp2_with fail
  refine (HP2.out _ hS7).mono ?_
  rintro e w8 ⟨d3, d4, d5, d6, d7, d8, d9, C2, U2, G2, rfl, hO2, hb⟩
  have hS8 := hS7.trans hb
  replace hO1 := hO1.next hb
  replace hB1 := hB1.next hb
  clear hb HP2 hS7
  obtain ⟨x3, y3, x4, y4, x5, y5, x8, y8, x9, y9, v3, v4, v5, v6, v7, v8, v9⟩ := pol_cells2 hO2
  simp only at v3 v4 v5 v6 v7 v8 v9
  subst v3 v4 v5 v6 v7 v8 v9
  obtain ⟨w9, hw9⟩ : ∃ W, Hid (W = w8.alloc (.cells #[.slice x3 pr.length y3, .slice x4 pd.length y4, .slice x5 cl.length y5, .int .i64 qu, .int .i64 bu, .slice x8 ru.length y8, .slice x9 gr.length y9] 29)) := ⟨_, rfl⟩
  have hb : Since w8 w9 := by rw [hw9.out]; exact (Since.refl w8).alloc _
  have hB2 : Cel w9 w8.heap.size #[.slice x3 pr.length y3, .slice x4 pd.length y4, .slice x5 cl.length y5, .int .i64 qu, .int .i64 bu, .slice x8 ru.length y8, .slice x9 gr.length y9] 29 := by rw [hw9.out]; exact heap_alloc_new w8 _
  have hS9 := hS8.trans hb
  replace hO1 := hO1.next hb
  replace hO2 := hO2.next hb
  replace hB1 := hB1.next hb
  clear hb hS8
  go_upto_region 13 with (fail)
  rw [← hw9.out]
  obtain ⟨g2, hg2⟩ : ∃ g, Hid (g = w8.heap.size) := ⟨_, rfl⟩
  simp only [← hg2.out]
  rw [← hg2.out] at hB2
  clear hg2 hw9
  go_wp2_with fail
  refine (HG1.out _ hS9).mono ?_
  rintro e wA ⟨rfl, hb⟩
  have hSA := hS9.trans hb
  replace hO1 := hO1.next hb
  replace hO2 := hO2.next hb
  replace hB1 := hB1.next hb
  replace hB2 := hB2.next hb
  clear hb HG1 hS9
  obtain ⟨wB, hwB⟩ : ∃ W, Hid (W = wA.alloc (.cells #[.string ⟨a_s.toArray⟩, .string ⟨a_p.toArray⟩, .int .i64 a_n, .bool a_v0, .string ⟨a_l0.toArray⟩, .bool a_v1, .string ⟨a_l1.toArray⟩, .bool a_v2, .string ⟨a_l2.toArray⟩, .bool a_v3, .string ⟨a_l3.toArray⟩] 44)) := ⟨_, rfl⟩
  have hb : Since wA wB := by rw [hwB.out]; exact (Since.refl wA).alloc _
  have hB3 : Cel wB wA.heap.size #[.string ⟨a_s.toArray⟩, .string ⟨a_p.toArray⟩, .int .i64 a_n, .bool a_v0, .string ⟨a_l0.toArray⟩, .bool a_v1, .string ⟨a_l1.toArray⟩, .bool a_v2, .string ⟨a_l2.toArray⟩, .bool a_v3, .string ⟨a_l3.toArray⟩] 44 := by rw [hwB.out]; exact heap_alloc_new wA _
  have hSB := hSA.trans hb
  replace hO1 := hO1.next hb
  replace hO2 := hO2.next hb
  replace hB1 := hB1.next hb
  replace hB2 := hB2.next hb
  clear hb hSA
  go_upto_region 14 with (fail)
  rw [← hwB.out]
  obtain ⟨g3, hg3⟩ : ∃ g, Hid (g = wA.heap.size) := ⟨_, rfl⟩
  simp only [← hg3.out]
  rw [← hg3.out] at hB3
  clear hg3 hwB
  go_wp2_with fail
  refine (HG2.out _ hSB).mono ?_
  rintro e wC ⟨rfl, hb⟩
  have hSC := hSB.trans hb
  replace hO1 := hO1.next hb
  replace hO2 := hO2.next hb
  replace hB1 := hB1.next hb
  replace hB2 := hB2.next hb
  replace hB3 := hB3.next hb
  clear hb HG2 hSB
  obtain ⟨wD, hwD⟩ : ∃ W, Hid (W = wC.alloc (.cells #[.string ⟨a_s.toArray⟩, .string ⟨a_p.toArray⟩, .int .i64 a_n, .bool a_v0, .string ⟨a_l0.toArray⟩, .bool a_v1, .string ⟨a_l1.toArray⟩, .bool a_v2, .string ⟨a_l2.toArray⟩, .bool a_v3, .string ⟨a_l3.toArray⟩] 44)) := ⟨_, rfl⟩
  have hb : Since wC wD := by rw [hwD.out]; exact (Since.refl wC).alloc _
  have hB4 : Cel wD wC.heap.size #[.string ⟨a_s.toArray⟩, .string ⟨a_p.toArray⟩, .int .i64 a_n, .bool a_v0, .string ⟨a_l0.toArray⟩, .bool a_v1, .string ⟨a_l1.toArray⟩, .bool a_v2, .string ⟨a_l2.toArray⟩, .bool a_v3, .string ⟨a_l3.toArray⟩] 44 := by rw [hwD.out]; exact heap_alloc_new wC _
  have hSD := hSC.trans hb
  replace hO1 := hO1.next hb
  replace hO2 := hO2.next hb
  replace hB1 := hB1.next hb
  replace hB2 := hB2.next hb
  replace hB3 := hB3.next hb
  clear hb hSC
  go_upto_region 15 with (fail)
  rw [← hwD.out]
  obtain ⟨g4, hg4⟩ : ∃ g, Hid (g = wC.heap.size) := ⟨_, rfl⟩
  simp only [← hg4.out]
  rw [← hg4.out] at hB4
  clear hg4 hwD
  have HSP := Lib.hid (same_policy_any hO1 hO2)
  clear hO1 hO2
  have k0 : wD.cell? ⟨g1, 0, none⟩ = some (.slice a3 pr.length e3) := hB1.cell 0; have l0 : wD.cell? ⟨g2, 0, none⟩ = some (.slice x3 pr.length y3) := hB2.cell 0; have k1 : wD.cell? ⟨g1, 1, none⟩ = some (.slice a4 pd.length e4) := hB1.cell 1; have l1 : wD.cell? ⟨g2, 1, none⟩ = some (.slice x4 pd.length y4) := hB2.cell 1; have k2 : wD.cell? ⟨g1, 2, none⟩ = some (.slice a5 cl.length e5) := hB1.cell 2; have l2 : wD.cell? ⟨g2, 2, none⟩ = some (.slice x5 cl.length y5) := hB2.cell 2; have k3 : wD.cell? ⟨g1, 3, none⟩ = some (.int .i64 qu) := hB1.cell 3; have l3 : wD.cell? ⟨g2, 3, none⟩ = some (.int .i64 qu) := hB2.cell 3; have k4 : wD.cell? ⟨g1, 4, none⟩ = some (.int .i64 bu) := hB1.cell 4; have l4 : wD.cell? ⟨g2, 4, none⟩ = some (.int .i64 bu) := hB2.cell 4; have k5 : wD.cell? ⟨g1, 5, none⟩ = some (.slice a8 ru.length e8) := hB1.cell 5; have l5 : wD.cell? ⟨g2, 5, none⟩ = some (.slice x8 ru.length y8) := hB2.cell 5; have k6 : wD.cell? ⟨g1, 6, none⟩ = some (.slice a9 gr.length e9) := hB1.cell 6; have l6 : wD.cell? ⟨g2, 6, none⟩ = some (.slice x9 gr.length y9) := hB2.cell 6
  have HC3 := Lib.hid hB3
  have HC4 := Lib.hid hB4
  clear hB1 hB2 hB3 hB4
  go_wp2_with fail
  refine HSP.out.mono ?_
  rintro e wE ⟨rfl, hb⟩
  have hSE := hSD.trans hb
  have hB3 := HC3.out.next hb
  have hB4 := HC4.out.next hb
  have m0 : wE.cell? ⟨g3, 0, none⟩ = some (.string ⟨a_s.toArray⟩) := hB3.cell 0; have n0 : wE.cell? ⟨g4, 0, none⟩ = some (.string ⟨a_s.toArray⟩) := hB4.cell 0; have m1 : wE.cell? ⟨g3, 1, none⟩ = some (.string ⟨a_p.toArray⟩) := hB3.cell 1; have n1 : wE.cell? ⟨g4, 1, none⟩ = some (.string ⟨a_p.toArray⟩) := hB4.cell 1; have m2 : wE.cell? ⟨g3, 2, none⟩ = some (.int .i64 a_n) := hB3.cell 2; have n2 : wE.cell? ⟨g4, 2, none⟩ = some (.int .i64 a_n) := hB4.cell 2; have m3 : wE.cell? ⟨g3, 3, none⟩ = some (.bool a_v0) := hB3.cell 3; have n3 : wE.cell? ⟨g4, 3, none⟩ = some (.bool a_v0) := hB4.cell 3; have m4 : wE.cell? ⟨g3, 4, none⟩ = some (.string ⟨a_l0.toArray⟩) := hB3.cell 4; have n4 : wE.cell? ⟨g4, 4, none⟩ = some (.string ⟨a_l0.toArray⟩) := hB4.cell 4; have m5 : wE.cell? ⟨g3, 5, none⟩ = some (.bool a_v1) := hB3.cell 5; have n5 : wE.cell? ⟨g4, 5, none⟩ = some (.bool a_v1) := hB4.cell 5; have m6 : wE.cell? ⟨g3, 6, none⟩ = some (.string ⟨a_l1.toArray⟩) := hB3.cell 6; have n6 : wE.cell? ⟨g4, 6, none⟩ = some (.string ⟨a_l1.toArray⟩) := hB4.cell 6; have m7 : wE.cell? ⟨g3, 7, none⟩ = some (.bool a_v2) := hB3.cell 7; have n7 : wE.cell? ⟨g4, 7, none⟩ = some (.bool a_v2) := hB4.cell 7; have m8 : wE.cell? ⟨g3, 8, none⟩ = some (.string ⟨a_l2.toArray⟩) := hB3.cell 8; have n8 : wE.cell? ⟨g4, 8, none⟩ = some (.string ⟨a_l2.toArray⟩) := hB4.cell 8; have m9 : wE.cell? ⟨g3, 9, none⟩ = some (.bool a_v3) := hB3.cell 9; have n9 : wE.cell? ⟨g4, 9, none⟩ = some (.bool a_v3) := hB4.cell 9; have m10 : wE.cell? ⟨g3, 10, none⟩ = some (.string ⟨a_l3.toArray⟩) := hB3.cell 10; have n10 : wE.cell? ⟨g4, 10, none⟩ = some (.string ⟨a_l3.toArray⟩) := hB4.cell 10
  clear hB3 hB4 HC3 HC4 HSP hb hSD k0 l0 k1 l1 k2 l2 k3 l3 k4 l4 k5 l5 k6 l6
  by_cases hf : f = 0
  · obtain ⟨z1, z2⟩ := HZ.out hf
    subst hf; subst z1; subst z2
    go_wp2_with fail
    exact hgood.out _ hSE
  · have hf2 : (f == 0) = false := by simpa using hf
    have hK1 : K (.returned (.bool (!(f == 0)))) wE := by rw [hf2]; exact hgood.out _ hSE
    clear hf2
    by_cases z1 : (at_ : Int) = 0
    · by_cases z2 : (tx : Int) = 0
      · go_wp2_with fail
        first | exact hK1 | exact hgood.out _ hSE
      · go_wp2_with fail
        first | exact hK1 | exact hgood.out _ hSE
    · go_wp2_with fail
      first | exact hK1 | exact hgood.out _ hSE
end Go.Proofs.YtnfjjckbgnieeaaGreatDoor
