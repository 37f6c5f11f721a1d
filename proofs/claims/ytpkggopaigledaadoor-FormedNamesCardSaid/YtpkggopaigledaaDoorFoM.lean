/- formed: rules, the two loops. -/
import Derived.Test.YtpkggopaigledaaDoorFoL
namespace Go.Proofs.YtpkggopaigledaaDoor
open Go.RowKit

def ruleErr (pr : List Txt) (pd : List (Txt × Int)) (x : Atm × List Atm) : Int := firstE [clauseE pr pd x.1 x.2, rangedE x.1 x.2]
def rulesF (pr : List Txt) (pd : List (Txt × Int)) : List (Atm × List Atm) → Int
  | [] => 0
  | x :: r => if ruleErr pr pd x = 0 then rulesF pr pd r else ruleErr pr pd x
def grantErr (pr : List Txt) (pd : List (Txt × Int)) (x : Txt × Atm × List Atm) : Int := firstE [ifE (!(pr.contains x.1)) 6, ifE (x.1 == x.2.1.1) 11, clauseE pr pd x.2.1 x.2.2]
def grantsF (pr : List Txt) (pd : List (Txt × Int)) : List (Txt × Atm × List Atm) → Int
  | [] => 0
  | x :: r => if grantErr pr pd x = 0 then grantsF pr pd r else grantErr pr pd x
def rulesE (pr : List Txt) (pd : List (Txt × Int)) (ru : List (Atm × List Atm)) (gr : List (Txt × Atm × List Atm)) : Int := if rulesF pr pd ru = 0 then grantsF pr pd gr else rulesF pr pd ru
theorem atat_cells1 {W : World} {b p : Nat} (a_s a_p : List UInt8) (a_n : Int) (a_v0 a_v1 a_v2 a_v3 : Bool) (a_l0 a_l1 a_l2 a_l3 : List UInt8) (h : AtAt W b (p + 1) ((a_s, a_p, a_n, (a_v0, a_l0), (a_v1, a_l1), (a_v2, a_l2), (a_v3, a_l3)) : Atm)) : W.cell? ⟨b, p + 1, none⟩ = some (.string ⟨a_s.toArray⟩) ∧ W.cell? ⟨b, p + 2, none⟩ = some (.string ⟨a_p.toArray⟩) ∧ W.cell? ⟨b, p + 3, none⟩ = some (.int .i64 a_n) ∧ W.cell? ⟨b, p + 4, none⟩ = some (.bool a_v0) ∧ W.cell? ⟨b, p + 5, none⟩ = some (.string ⟨a_l0.toArray⟩) ∧ W.cell? ⟨b, p + 6, none⟩ = some (.bool a_v1) ∧ W.cell? ⟨b, p + 7, none⟩ = some (.string ⟨a_l1.toArray⟩) ∧ W.cell? ⟨b, p + 8, none⟩ = some (.bool a_v2) ∧ W.cell? ⟨b, p + 9, none⟩ = some (.string ⟨a_l2.toArray⟩) ∧ W.cell? ⟨b, p + 10, none⟩ = some (.bool a_v3) ∧ W.cell? ⟨b, p + 11, none⟩ = some (.string ⟨a_l3.toArray⟩) :=
  ⟨h 0 _ rfl, h 1 _ rfl, h 2 _ rfl, h 3 _ rfl, h 4 _ rfl, h 5 _ rfl, h 6 _ rfl, h 7 _ rfl, h 8 _ rfl, h 9 _ rfl, h 10 _ rfl⟩
theorem atat_box {W : World} {a : Atm} {g o : Nat} {cs : Array Value} (h : ∀ j u, (atmC a)[j]? = some u → cs[o + j]? = some u) (hc : ∀ j, W.cell? ⟨g, j, none⟩ = cs[j]?) : AtAt W g o a := fun j u hu => (hc _).trans (h j u hu)
set_option maxHeartbeats 8000000 in
set_option maxRecDepth 100000 in
theorem frules_any (ap ad ac ar ag : Option Addr) (np cp nd cd nc cc nr cr ng cg : Nat) (qu bu : Int) (pr : List Txt) (pd : List (Txt × Int)) (ru : List (Atm × List Atm)) (gr : List (Txt × Atm × List Atm)) (w : World) (hT : TRow w (.slice ap np cp) pr) (hP : PRow w (.slice ad nd cd) pd) (lr : pr.length ≤ 1000000) (lp : pd.length ≤ 1000000) (hR : RRow w (.slice ar nr cr) ru) (hG : GRow w (.slice ag ng cg) gr)
    (fr : ∀ x ∈ ru, FitsA x.1 ∧ (∀ a ∈ x.2, FitsA a) ∧ x.2.length ≤ 100000) (fg : ∀ x ∈ gr, FitsA x.2.1 ∧ (∀ a ∈ x.2.2, FitsA a) ∧ x.2.2.length ≤ 100000) (mr : ru.length ≤ 1000000) (mg : gr.length ≤ 1000000) (hE : Env w) :
    Calls Tryd.prog 38 #[.agg #[.slice ap np cp, .slice ad nd cd, .slice ac nc cc, .int .i64 qu, .int .i64 bu, .slice ar nr cr, .slice ag ng cg]] w fun e w' => e = .returned (.int .i64 (rulesE pr pd ru gr)) ∧ Since w w' := by
  have hmf : ∀ (fn : Fn) (first cap : Array Value) (w : World), (Instr.makeFunc fn first cap).run Tryd.prog w = .ok (.func fn first cap) w := fun _ _ _ _ => rfl
  have hS0 : Since w (w.alloc (.cells #[.slice ap np cp, .slice ad nd cd, .slice ac nc cc, .int .i64 qu, .int .i64 bu, .slice ar nr cr, .slice ag ng cg] 28)) := (Since.refl _).alloc _
  have p_B := pbox_new w ap ad ac ar ag np cp nd cd nc cc nr cr ng cg qu bu 28
  have HR := Lib.hid (rnext hR hS0)
  have HG := Lib.hid (gnext hG hS0)
  have HPT := Lib.hid (tnext hT hS0)
  have HPD := Lib.hid (pnext hP hS0)
  have HE := Lib.hid (hE.next hS0)
  have hn := Lib.hid hR.form
  have hn2 := Lib.hid hG.form
  have hnm : nr ≤ 1000000 := by have := hR.form; omega
  have hnm2 : ng ≤ 1000000 := by have := hG.form; omega
  clear hR hG hT hP hE
  go_enter Tryd.func38, Tryd.ntmps38
  go_wp2_with fail
  generalize w.alloc (.cells #[.slice ap np cp, .slice ad nd cd, .slice ac nc cc, .int .i64 qu, .int .i64 bu, .slice ar nr cr, .slice ag ng cg] 28) = w1 at *
  go_loopw [12] (fun m wr => ∃ k : Nat, k ≤ nr ∧ m = .int .i64 (k : Int) ∧ rulesF pr pd ru = rulesF pr pd (ru.drop k) ∧ Since w1 wr) (fun m _ => nr - (intOf m).toNat)
  case atStart => exact ⟨0, by omega, rfl, rfl, Since.refl _⟩
  case round =>
    obtain ⟨k, hk, rfl, hF, hSr⟩ := hrel
    have HF := Lib.hid hF
    clear hF
    by_cases hlt : k < nr
    · have hkl : k < ru.length := by have := hn.out; omega
      have hlt2 : (k : Int) < (nr : Int) := by omega
      have hlt0 : (0 : Int) ≤ (k : Int) := by omega
      obtain ⟨b, o, rfl, hc, hat⟩ := (rnext HR.out hSr).get (by omega)
      obtain ⟨d1, u, d2, hB0⟩ := hat k hkl
      obtain ⟨⟨x, B⟩, hx⟩ : ∃ x, Hid (x = ru[k]) := ⟨ru[k], rfl⟩
      have hfx := fr _ (List.getElem_mem hkl)
      rw [← hx.out] at d1 hB0 hfx
      have hE2 : Hid (rulesF pr pd ru = if ruleErr pr pd (x, B) = 0 then rulesF pr pd (ru.drop (k + 1)) else ruleErr pr pd (x, B)) := by
        show _ = _
        rw [HF.out, List.drop_eq_getElem_cons hkl, rulesF, ← hx.out]
      obtain ⟨v, c, rfl⟩ := hB0.slice
      obtain ⟨n, hnB⟩ : ∃ n, Hid (B.length = n) := ⟨_, rfl⟩
      have HB := Lib.hid hB0
      simp only at HB d2
      rw [hnB.out] at d2 HB
      obtain ⟨a_s, a_p, a_n, ⟨a_v0, a_l0⟩, ⟨a_v1, a_l1⟩, ⟨a_v2, a_l2⟩, ⟨a_v3, a_l3⟩⟩ := x
      obtain ⟨a_c0, a_c1, a_c2, a_c3, a_c4, a_c5, a_c6, a_c7, a_c8, a_c9, a_c10⟩ := atat_cells a_s a_p a_n a_v0 a_v1 a_v2 a_v3 a_l0 a_l1 a_l2 a_l3 d1
      clear hat d1 hB0 HF
      have hA1 : Since wr (wr.alloc (.cells #[.string ⟨a_s.toArray⟩, .string ⟨a_p.toArray⟩, .int .i64 a_n, .bool a_v0, .string ⟨a_l0.toArray⟩, .bool a_v1, .string ⟨a_l1.toArray⟩, .bool a_v2, .string ⟨a_l2.toArray⟩, .bool a_v3, .string ⟨a_l3.toArray⟩, .slice v n c] 42)) := (Since.refl _).alloc _
      have hS2 := hSr.trans hA1
      have hq : (wr.alloc (.cells #[.string ⟨a_s.toArray⟩, .string ⟨a_p.toArray⟩, .int .i64 a_n, .bool a_v0, .string ⟨a_l0.toArray⟩, .bool a_v1, .string ⟨a_l1.toArray⟩, .bool a_v2, .string ⟨a_l2.toArray⟩, .bool a_v3, .string ⟨a_l3.toArray⟩, .slice v n c] 42)).cell? ⟨wr.heap.size, 11, none⟩ = some (.slice v n c) := by rw [World.cell?_alloc_new]; rfl
      have hab : AtAt (wr.alloc (.cells #[.string ⟨a_s.toArray⟩, .string ⟨a_p.toArray⟩, .int .i64 a_n, .bool a_v0, .string ⟨a_l0.toArray⟩, .bool a_v1, .string ⟨a_l1.toArray⟩, .bool a_v2, .string ⟨a_l2.toArray⟩, .bool a_v3, .string ⟨a_l3.toArray⟩, .slice v n c] 42)) wr.heap.size 0 ((a_s, a_p, a_n, (a_v0, a_l0), (a_v1, a_l1), (a_v2, a_l2), (a_v3, a_l3)) : Atm) := atat_box (cs := #[.string ⟨a_s.toArray⟩, .string ⟨a_p.toArray⟩, .int .i64 a_n, .bool a_v0, .string ⟨a_l0.toArray⟩, .bool a_v1, .string ⟨a_l1.toArray⟩, .bool a_v2, .string ⟨a_l2.toArray⟩, .bool a_v3, .string ⟨a_l3.toArray⟩, .slice v n c]) (fun j u hu => by
        have hj : j < 11 := by have := (Array.getElem?_eq_some_iff.1 hu).1; simpa [atmC] using this
        match j, hj with
        | 0, _ => exact hu
        | 1, _ => exact hu
        | 2, _ => exact hu
        | 3, _ => exact hu
        | 4, _ => exact hu
        | 5, _ => exact hu
        | 6, _ => exact hu
        | 7, _ => exact hu
        | 8, _ => exact hu
        | 9, _ => exact hu
        | 10, _ => exact hu) (fun j => World.cell?_alloc_new wr _ _ j)
      have R1 : Hid (Rule (wr.alloc (.cells #[.string ⟨a_s.toArray⟩, .string ⟨a_p.toArray⟩, .int .i64 a_n, .bool a_v0, .string ⟨a_l0.toArray⟩, .bool a_v1, .string ⟨a_l1.toArray⟩, .bool a_v2, .string ⟨a_l2.toArray⟩, .bool a_v3, .string ⟨a_l3.toArray⟩, .slice v n c] 42)) (.func (.func 64) #[] #[.pointer (some ⟨w.heap.size, 0, none⟩), .pointer (some ⟨wr.heap.size, 0, none⟩)]) (clauseE pr pd ((a_s, a_p, a_n, (a_v0, a_l0), (a_v1, a_l1), (a_v2, a_l2), (a_v3, a_l3)) : Atm) B)) :=
        ⟨_, _, rfl, run_rl1 _, fun W hW => frl1_any ap ad ac (some ⟨b, o, none⟩) ag np cp nd cd nc cc nr cr ng cg qu bu pr pd a_s a_p a_n a_v0 a_v1 a_v2 a_v3 a_l0 a_l1 a_l2 a_l3 v n c B _ _ W (p_B.next (hS2.trans hW)) (hab.next hW) (hW.cell hq) (tnext HPT.out (hS2.trans hW)) (pnext HPD.out (hS2.trans hW)) lr lp (anext HB.out (hA1.trans hW)) hfx.1 hfx.2.1 hfx.2.2 (HE.out.next (hS2.trans hW))⟩
      have R2 : Hid (Rule (wr.alloc (.cells #[.string ⟨a_s.toArray⟩, .string ⟨a_p.toArray⟩, .int .i64 a_n, .bool a_v0, .string ⟨a_l0.toArray⟩, .bool a_v1, .string ⟨a_l1.toArray⟩, .bool a_v2, .string ⟨a_l2.toArray⟩, .bool a_v3, .string ⟨a_l3.toArray⟩, .slice v n c] 42)) (.func (.func 66) #[] #[.pointer (some ⟨wr.heap.size, 0, none⟩)]) (rangedE ((a_s, a_p, a_n, (a_v0, a_l0), (a_v1, a_l1), (a_v2, a_l2), (a_v3, a_l3)) : Atm) B)) :=
        ⟨_, _, rfl, run_rl2 _, fun W hW => frl2_any a_s a_p a_n a_v0 a_v1 a_v2 a_v3 a_l0 a_l1 a_l2 a_l3 v n c B _ W (hab.next hW) (hW.cell hq) (anext HB.out (hA1.trans hW)) hfx.2.2⟩
      go_wp2_with fail
      generalize hw2 : (wr.alloc (.cells #[.string ⟨a_s.toArray⟩, .string ⟨a_p.toArray⟩, .int .i64 a_n, .bool a_v0, .string ⟨a_l0.toArray⟩, .bool a_v1, .string ⟨a_l1.toArray⟩, .bool a_v2, .string ⟨a_l2.toArray⟩, .bool a_v3, .string ⟨a_l3.toArray⟩, .slice v n c] 42)) = w2 at *
      have hz2 : wr.heap.size + 1 = w2.heap.size := by rw [← hw2]; simp
      clear hw2
      rw [hz2]
      refine (first2 _ _ _ _ _ R1.out R2.out).mono ?_
      rintro e w3 ⟨rfl, hb⟩
      have hS3 := (hS2.alloc _).trans hb
      have hE3 := hE2.out
      unfold ruleErr at hE3
      simp only at hE3
      obtain ⟨E, hE1⟩ : ∃ E, Hid (E = firstE [clauseE pr pd ((a_s, a_p, a_n, (a_v0, a_l0), (a_v1, a_l1), (a_v2, a_l2), (a_v3, a_l3)) : Atm) B, rangedE ((a_s, a_p, a_n, (a_v0, a_l0), (a_v1, a_l1), (a_v2, a_l2), (a_v3, a_l3)) : Atm) B]) := ⟨_, rfl⟩
      rw [← hE1.out] at hE3 ⊢
      replace hE2 := Lib.hid hE3
      clear hE3
      clear hb hA1 hS2 hq hab R1 R2 a_c0 a_c1 a_c2 a_c3 a_c4 a_c5 a_c6 a_c7 a_c8 a_c9 a_c10 d2
      by_cases he : E = 0
      · go_wp2_with fail
        go_roundw
        case rel => exact ⟨k + 1, by omega, by go_num, by rw [hE2.out, if_pos he], hS3⟩
        case measure => simp [intOf]; omega
      · go_wp2_with fail
        go_ret
        refine ⟨ret_int ?_, hS0.trans hS3⟩
        rw [rulesE, hE2.out, if_neg he, if_neg he]
    · have hlt2 : ¬ (k : Int) < (nr : Int) := by omega
      have hz : Hid (rulesF pr pd ru = 0) := by
        show _ = _
        rw [HF.out, List.drop_eq_nil_of_le (by have := hn.out; omega)]
        rfl
      obtain ⟨p_c0, p_c1, p_c2, p_c3, p_c4, p_c5, p_c6⟩ := p_B.next hSr
      clear HF
      go_wp2_with fail
      clear p_c0 p_c1 p_c2 p_c3 p_c4 p_c5 p_c6
      go_loopw [27] (fun m wr => ∃ k : Nat, k ≤ ng ∧ m = .int .i64 (k : Int) ∧ grantsF pr pd gr = grantsF pr pd (gr.drop k) ∧ Since w1 wr) (fun m _ => ng - (intOf m).toNat)
      case atStart => exact ⟨0, by omega, rfl, rfl, hSr⟩
      case round =>
        obtain ⟨k, hk, rfl, hF, hSq⟩ := hrel
        have HF := Lib.hid hF
        clear hF
        by_cases hlg : k < ng
        · have hkl : k < gr.length := by have := hn2.out; omega
          have hlt3 : (k : Int) < (ng : Int) := by omega
          have hlt0 : (0 : Int) ≤ (k : Int) := by omega
          obtain ⟨b, o, rfl, hc, hat⟩ := (gnext HG.out hSq).get (by omega)
          obtain ⟨d0, d1, u, d2, hB0⟩ := hat k hkl
          obtain ⟨⟨s, x, B⟩, hx⟩ : ∃ x, Hid (x = gr[k]) := ⟨gr[k], rfl⟩
          have hfx := fg _ (List.getElem_mem hkl)
          rw [← hx.out] at d0 d1 hB0 hfx
          have hE2 : Hid (grantsF pr pd gr = if grantErr pr pd (s, x, B) = 0 then grantsF pr pd (gr.drop (k + 1)) else grantErr pr pd (s, x, B)) := by
            show _ = _
            rw [HF.out, List.drop_eq_getElem_cons hkl, grantsF, ← hx.out]
          obtain ⟨v, c, rfl⟩ := hB0.slice
          obtain ⟨n, hnB⟩ : ∃ n, Hid (B.length = n) := ⟨_, rfl⟩
          have HB := Lib.hid hB0
          simp only [strV] at HB d2 d0
          rw [hnB.out] at d2 HB
          obtain ⟨a_s, a_p, a_n, ⟨a_v0, a_l0⟩, ⟨a_v1, a_l1⟩, ⟨a_v2, a_l2⟩, ⟨a_v3, a_l3⟩⟩ := x
          obtain ⟨a_c0, a_c1, a_c2, a_c3, a_c4, a_c5, a_c6, a_c7, a_c8, a_c9, a_c10⟩ := atat_cells1 a_s a_p a_n a_v0 a_v1 a_v2 a_v3 a_l0 a_l1 a_l2 a_l3 d1
          clear hat d1 hB0 HF
          have hA1 : Since wr (wr.alloc (.cells #[.string ⟨s.toArray⟩, .string ⟨a_s.toArray⟩, .string ⟨a_p.toArray⟩, .int .i64 a_n, .bool a_v0, .string ⟨a_l0.toArray⟩, .bool a_v1, .string ⟨a_l1.toArray⟩, .bool a_v2, .string ⟨a_l2.toArray⟩, .bool a_v3, .string ⟨a_l3.toArray⟩, .slice v n c] 54)) := (Since.refl _).alloc _
          have hS2 := hSq.trans hA1
          have hq : (wr.alloc (.cells #[.string ⟨s.toArray⟩, .string ⟨a_s.toArray⟩, .string ⟨a_p.toArray⟩, .int .i64 a_n, .bool a_v0, .string ⟨a_l0.toArray⟩, .bool a_v1, .string ⟨a_l1.toArray⟩, .bool a_v2, .string ⟨a_l2.toArray⟩, .bool a_v3, .string ⟨a_l3.toArray⟩, .slice v n c] 54)).cell? ⟨wr.heap.size, 12, none⟩ = some (.slice v n c) := by rw [World.cell?_alloc_new]; rfl
          have z0 : (wr.alloc (.cells #[.string ⟨s.toArray⟩, .string ⟨a_s.toArray⟩, .string ⟨a_p.toArray⟩, .int .i64 a_n, .bool a_v0, .string ⟨a_l0.toArray⟩, .bool a_v1, .string ⟨a_l1.toArray⟩, .bool a_v2, .string ⟨a_l2.toArray⟩, .bool a_v3, .string ⟨a_l3.toArray⟩, .slice v n c] 54)).cell? ⟨wr.heap.size, 0, none⟩ = some (.string ⟨s.toArray⟩) := by rw [World.cell?_alloc_new]; rfl
          have z1 : (wr.alloc (.cells #[.string ⟨s.toArray⟩, .string ⟨a_s.toArray⟩, .string ⟨a_p.toArray⟩, .int .i64 a_n, .bool a_v0, .string ⟨a_l0.toArray⟩, .bool a_v1, .string ⟨a_l1.toArray⟩, .bool a_v2, .string ⟨a_l2.toArray⟩, .bool a_v3, .string ⟨a_l3.toArray⟩, .slice v n c] 54)).cell? ⟨wr.heap.size, 1, none⟩ = some (.string ⟨a_s.toArray⟩) := by rw [World.cell?_alloc_new]; rfl
          have hab : AtAt (wr.alloc (.cells #[.string ⟨s.toArray⟩, .string ⟨a_s.toArray⟩, .string ⟨a_p.toArray⟩, .int .i64 a_n, .bool a_v0, .string ⟨a_l0.toArray⟩, .bool a_v1, .string ⟨a_l1.toArray⟩, .bool a_v2, .string ⟨a_l2.toArray⟩, .bool a_v3, .string ⟨a_l3.toArray⟩, .slice v n c] 54)) wr.heap.size 1 ((a_s, a_p, a_n, (a_v0, a_l0), (a_v1, a_l1), (a_v2, a_l2), (a_v3, a_l3)) : Atm) := atat_box (cs := #[.string ⟨s.toArray⟩, .string ⟨a_s.toArray⟩, .string ⟨a_p.toArray⟩, .int .i64 a_n, .bool a_v0, .string ⟨a_l0.toArray⟩, .bool a_v1, .string ⟨a_l1.toArray⟩, .bool a_v2, .string ⟨a_l2.toArray⟩, .bool a_v3, .string ⟨a_l3.toArray⟩, .slice v n c]) (fun j u hu => by
            have hj : j < 11 := by have := (Array.getElem?_eq_some_iff.1 hu).1; simpa [atmC] using this
            match j, hj with
            | 0, _ => exact hu
            | 1, _ => exact hu
            | 2, _ => exact hu
            | 3, _ => exact hu
            | 4, _ => exact hu
            | 5, _ => exact hu
            | 6, _ => exact hu
            | 7, _ => exact hu
            | 8, _ => exact hu
            | 9, _ => exact hu
            | 10, _ => exact hu) (fun j => World.cell?_alloc_new wr _ _ j)
          have RA : Hid (Rule (wr.alloc (.cells #[.string ⟨s.toArray⟩, .string ⟨a_s.toArray⟩, .string ⟨a_p.toArray⟩, .int .i64 a_n, .bool a_v0, .string ⟨a_l0.toArray⟩, .bool a_v1, .string ⟨a_l1.toArray⟩, .bool a_v2, .string ⟨a_l2.toArray⟩, .bool a_v3, .string ⟨a_l3.toArray⟩, .slice v n c] 54)) (.func (.func 68) #[] #[.pointer (some ⟨w.heap.size, 0, none⟩), .pointer (some ⟨wr.heap.size, 0, none⟩)]) (clauseE pr pd ((a_s, a_p, a_n, (a_v0, a_l0), (a_v1, a_l1), (a_v2, a_l2), (a_v3, a_l3)) : Atm) B)) :=
            ⟨_, _, rfl, run_rl3 _, fun W hW => frl3_any ap ad ac ar (some ⟨b, o, none⟩) np cp nd cd nc cc nr cr ng cg qu bu pr pd a_s a_p a_n a_v0 a_v1 a_v2 a_v3 a_l0 a_l1 a_l2 a_l3 v n c B _ _ W (p_B.next (hS2.trans hW)) (hab.next hW) (hW.cell hq) (tnext HPT.out (hS2.trans hW)) (pnext HPD.out (hS2.trans hW)) lr lp (anext HB.out (hA1.trans hW)) hfx.1 hfx.2.1 hfx.2.2 (HE.out.next (hS2.trans hW))⟩
          obtain ⟨A, hA⟩ : ∃ A, Hid (A = pr.contains s) := ⟨_, rfl⟩
          have HPR : Hid (∀ W, Since w1 W → Calls Tryd.prog 18 #[.agg #[.slice ap np cp, .slice ad nd cd, .slice ac nc cc, .int .i64 qu, .int .i64 bu, .slice ar nr cr, .slice (some ⟨b, o, none⟩) ng cg], .string ⟨s.toArray⟩] W fun e w' => e = .returned (.bool A) ∧ Since W w') := by
            intro W h; rw [hA.out]; exact fprin_any ap ad ac ar (some ⟨b, o, none⟩) np cp nd cd nc cc nr cr ng cg qu bu pr s W (tnext HPT.out h) lr
          have hE3 := hE2.out
          unfold grantErr at hE3
          simp only at hE3
          obtain ⟨E, hE1⟩ : ∃ E, Hid (E = firstE [ifE (!(pr.contains s)) 6, ifE (s == a_s) 11, clauseE pr pd ((a_s, a_p, a_n, (a_v0, a_l0), (a_v1, a_l1), (a_v2, a_l2), (a_v3, a_l3)) : Atm) B]) := ⟨_, rfl⟩
          rw [← hE1.out] at hE3
          have hE4 := Lib.hid hE3
          rw [← hA.out] at hE1
          clear hE2 hE3
          go_wp2_with fail
          generalize (wr.alloc (.cells #[.string ⟨s.toArray⟩, .string ⟨a_s.toArray⟩, .string ⟨a_p.toArray⟩, .int .i64 a_n, .bool a_v0, .string ⟨a_l0.toArray⟩, .bool a_v1, .string ⟨a_l1.toArray⟩, .bool a_v2, .string ⟨a_l2.toArray⟩, .bool a_v3, .string ⟨a_l3.toArray⟩, .slice v n c] 54)) = w2 at *
          have hs0 : Since w2 w2.drew := (Since.refl _).drew
          refine hx_begin (S := fun W => Since w2 W) (by kernel_rfl) hs0 (by kernel_rfl) (fun _ _ _ _ _ h => h) (fun hns hQ => ?_)
          refine hx_take (i := 0) (oi := _) (v := .agg #[.slice ap np cp, .slice ad nd cd, .slice ac nc cc, .int .i64 qu, .int .i64 bu, .slice ar nr cr, .slice (some ⟨b, o, none⟩) ng cg]) rfl rfl hns (by kernel_rfl) (by kernel_rfl) hQ (by kernel_rfl) (fun W hW => ld_pol _ _ rfl _ _ (by kernel_rfl) ap ad ac ar (some ⟨b, o, none⟩) np cp nd cd nc cc nr cr ng cg qu bu W (p_B.next (hS2.trans hW))) hs0 ?_
          refine hx_take (i := 1) (oi := _) (v := .pointer (some ⟨wr.heap.size, 0, none⟩)) rfl rfl hns (by kernel_rfl) (by kernel_rfl) hQ (by kernel_rfl) (fun W _ => fa_grn0 _ _ rfl _ _ (by kernel_rfl) W) hs0 ?_
          refine hx_take (i := 2) (oi := _) (v := .string ⟨s.toArray⟩) rfl rfl hns (by kernel_rfl) (by kernel_rfl) hQ (by kernel_rfl) (fun W hW => ld_str _ _ rfl _ wr.heap.size 0 (by kernel_rfl) _ W (hW.cell z0)) hs0 ?_
          refine hx_take (i := 6) (oi := _) (v := .pointer (some ⟨wr.heap.size, 0, none⟩)) rfl rfl hns (by kernel_rfl) (by kernel_rfl) hQ (by kernel_rfl) (fun W _ => fa_grn0 _ _ rfl _ _ (by kernel_rfl) W) hs0 ?_
          refine hx_take (i := 7) (oi := _) (v := .string ⟨s.toArray⟩) rfl rfl hns (by kernel_rfl) (by kernel_rfl) hQ (by kernel_rfl) (fun W hW => ld_str _ _ rfl _ wr.heap.size 0 (by kernel_rfl) _ W (hW.cell z0)) hs0 ?_
          refine hx_take (i := 8) (oi := _) (v := .pointer (some ⟨wr.heap.size, 1, none⟩)) rfl rfl hns (by kernel_rfl) (by kernel_rfl) hQ (by kernel_rfl) (fun W _ => fa_grn1 _ _ rfl _ _ (by kernel_rfl) W) hs0 ?_
          refine hx_take (i := 9) (oi := _) (v := .pointer (some ⟨wr.heap.size, 1, none⟩)) rfl rfl hns (by kernel_rfl) (by kernel_rfl) hQ (by kernel_rfl) (fun W _ => fa_atm0 _ _ rfl _ _ 1 (by kernel_rfl) W) hs0 ?_
          refine hx_take (i := 10) (oi := _) (v := .string ⟨a_s.toArray⟩) rfl rfl hns (by kernel_rfl) (by kernel_rfl) hQ (by kernel_rfl) (fun W hW => ld_str _ _ rfl _ wr.heap.size 1 (by kernel_rfl) _ W (hW.cell z1)) hs0 ?_
          refine hx_take (i := 11) (oi := _) (v := .bool (s == a_s)) rfl rfl hns (by kernel_rfl) (by kernel_rfl) hQ (by kernel_rfl) (fun W _ => eq_txt _ _ _ rfl _ s a_s (by kernel_rfl) (by kernel_rfl) W) hs0 ?_
          refine hx_take (i := 13) (oi := _) (v := (.func (.func 68) #[] #[.pointer (some ⟨w.heap.size, 0, none⟩), .pointer (some ⟨wr.heap.size, 0, none⟩)])) rfl rfl hns (by kernel_rfl) (by kernel_rfl) hQ (by kernel_rfl) (fun _ _ => by kernel_rfl) hs0 ?_
          refine hx_call (i := 3) (oi := _) 18 #[.agg #[.slice ap np cp, .slice ad nd cd, .slice ac nc cc, .int .i64 qu, .int .i64 bu, .slice ar nr cr, .slice (some ⟨b, o, none⟩) ng cg], .string ⟨s.toArray⟩] rfl rfl (by kernel_rfl) (by kernel_rfl) (by kernel_rfl) (HPR.out _ (hS2.trans hs0)) ?_
          rintro e w3 ⟨rfl, hb3⟩
          have hS3 : Since w2 w3 := hs0.trans hb3
          clear hb3
          refine ⟨_, rfl, hS3, ?_⟩
          refine hx_take (i := 4) (oi := _) (v := .bool (!A)) rfl rfl hns (by kernel_rfl) (by kernel_rfl) hQ (by kernel_rfl) (fun _ _ => by kernel_rfl) hS3 ?_
          refine hx_call (i := 5) (oi := _) 45 #[.bool (!A), .int .i64 6] rfl rfl (by kernel_rfl) (by kernel_rfl) (by kernel_rfl) (not_rule _ 6 _) ?_
          rintro e w4 ⟨g1, rfl, r1, hb4⟩
          have hS4 : Since w2 w4 := hS3.trans hb4
          replace r1 := Lib.hid r1
          clear hb4
          refine ⟨_, rfl, hS4, ?_⟩
          refine hx_call (i := 12) (oi := _) 45 #[.bool (s == a_s), .int .i64 11] rfl rfl (by kernel_rfl) (by kernel_rfl) (by kernel_rfl) (not_rule _ 11 _) ?_
          rintro e w5 ⟨g2, rfl, r2, hb5⟩
          have hS5 : Since w2 w5 := hS4.trans hb5
          replace r1 := Lib.hid (r1.out.next hb5)
          replace r2 := Lib.hid r2
          clear hb5
          refine ⟨_, rfl, hS5, ?_⟩
          have hsA : Since w2 (w5.alloc (.cells #[.func (.func 73) #[] #[.pointer (some ⟨g1, 0, none⟩), .pointer (some ⟨g1 + 1, 0, none⟩)], .func (.func 73) #[] #[.pointer (some ⟨g2, 0, none⟩), .pointer (some ⟨g2 + 1, 0, none⟩)], .func (.func 68) #[] #[.pointer (some ⟨w.heap.size, 0, none⟩), .pointer (some ⟨wr.heap.size, 0, none⟩)]] 73)) := hS5.alloc _
          refine hx_make (i := 14) (oi := _) (.slice (some ⟨w5.heap.size, 0, none⟩) 3 3) (w5.alloc (.cells #[.func (.func 73) #[] #[.pointer (some ⟨g1, 0, none⟩), .pointer (some ⟨g1 + 1, 0, none⟩)], .func (.func 73) #[] #[.pointer (some ⟨g2, 0, none⟩), .pointer (some ⟨g2 + 1, 0, none⟩)], .func (.func 68) #[] #[.pointer (some ⟨w.heap.size, 0, none⟩), .pointer (some ⟨wr.heap.size, 0, none⟩)]] 73)) rfl rfl (by kernel_rfl) (by kernel_rfl) (mk_rules3 _ _ _ _  rfl _ _ _ _ _ _ _  (by kernel_rfl) (by kernel_rfl) (by kernel_rfl) _) hsA ?_
          refine hx_call (i := 15) (oi := _) 42 #[.slice (some ⟨w5.heap.size, 0, none⟩) 3 3] rfl rfl (by kernel_rfl) (by kernel_rfl) (by kernel_rfl) (first3 _ _ _ _ _ _ _ (r1.out) (r2.out) (RA.out.next hS5)) ?_
          rintro e w6 ⟨rfl, hb6⟩
          have hS6 : Since w2 w6 := hsA.trans hb6
          rw [← hE1.out]
          clear hb6
          refine ⟨_, rfl, hS6, ?_⟩
          refine hx_take (i := 16) (oi := _) (v := .int .i64 E) rfl rfl hns (by kernel_rfl) (by kernel_rfl) hQ (by kernel_rfl) (fun _ _ => by kernel_rfl) hS6 ?_
          refine wpAnyH_done (by kernel_rfl) ?_ _
          clear hns hQ
          simp only [List.set_cons_zero, List.set_cons_succ]
          replace hSq := hS2.trans hS6
          clear hs0 hS3 hS4 hS5 hsA hS6 r1 r2 HPR RA hab hq z0 z1 hA1 hS2 a_c0 a_c1 a_c2 a_c3 a_c4 a_c5 a_c6 a_c7 a_c8 a_c9 a_c10 d0 d2
          by_cases he : E = 0
          · go_wp2_with fail
            go_roundw
            case rel => exact ⟨k + 1, by omega, by go_num, by rw [hE4.out, if_pos he], hSq⟩
            case measure => simp [intOf]; omega
          · go_wp2_with fail
            go_ret
            refine ⟨ret_int ?_, hS0.trans hSq⟩
            rw [rulesE, hz.out, if_pos rfl, hE4.out, if_neg he]
        · have hlt3 : ¬ (k : Int) < (ng : Int) := by omega
          go_wp2_with fail
          go_ret
          refine ⟨ret_int ?_, hS0.trans hSq⟩
          have h3 := hn2.out
          rw [rulesE, hz.out, if_pos rfl, HF.out, List.drop_eq_nil_of_le (by omega)]
          rfl
end Go.Proofs.YtpkggopaigledaaDoor
