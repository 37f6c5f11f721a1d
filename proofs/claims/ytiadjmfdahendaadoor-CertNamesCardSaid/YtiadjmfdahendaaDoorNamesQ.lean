/- CertNames: its last region. CertNames returns true in every world in which the library's table strings.asciiSpace stands. -/
import Derived.Test.YtiadjmfdahendaaDoorHeldC
import Derived.Test.YtiadjmfdahendaaDoorHeld2
import Derived.Test.YtiadjmfdahendaaDoorBackC
namespace Go.Proofs.YtiadjmfdahendaaDoor
open Go.RowKit
attribute [local go_sem ↓] run_atomEq
attribute [local go_sem] eqA_self

theorem of_any (s p v : List UInt8) (w : World) :
    Calls Tryd.prog 18 #[.string ⟨s.toArray⟩, .string ⟨p.toArray⟩, .string ⟨v.toArray⟩] w fun e w' => e = .returned (.agg #[.string ⟨s.toArray⟩, .string ⟨p.toArray⟩, .int .i64 1, .bool true, .string ⟨v.toArray⟩, .bool false, .string ⟨#[]⟩, .bool false, .string ⟨#[]⟩, .bool false, .string ⟨#[]⟩]) ∧ Since w w' := by
  go_enter Tryd.func18, Tryd.ntmps18
  go_wp2
  refine bodyPost_ret (v := .agg #[.string ⟨s.toArray⟩, .string ⟨p.toArray⟩, .int .i64 1, .bool true, .string ⟨v.toArray⟩, .bool false, .string ⟨#[]⟩, .bool false, .string ⟨#[]⟩, .bool false, .string ⟨#[]⟩]) (by simp [results, Tryd.results18, go_sem]) rfl ⟨rfl, ?_⟩
  exact ((Since.refl _).alloc _).alloc _
theorem at_any (s p v : List UInt8) (w : World) :
    Calls Tryd.prog 20 #[.string ⟨s.toArray⟩, .string ⟨p.toArray⟩, .string ⟨v.toArray⟩] w fun e w' => e = .returned (.agg #[.string ⟨s.toArray⟩, .string ⟨p.toArray⟩, .int .i64 1, .bool false, .string ⟨v.toArray⟩, .bool false, .string ⟨#[]⟩, .bool false, .string ⟨#[]⟩, .bool false, .string ⟨#[]⟩]) ∧ Since w w' := by
  go_enter Tryd.func20, Tryd.ntmps20
  go_wp2
  refine bodyPost_ret (v := .agg #[.string ⟨s.toArray⟩, .string ⟨p.toArray⟩, .int .i64 1, .bool false, .string ⟨v.toArray⟩, .bool false, .string ⟨#[]⟩, .bool false, .string ⟨#[]⟩, .bool false, .string ⟨#[]⟩]) (by simp [results, Tryd.results20, go_sem]) rfl ⟨rfl, ?_⟩
  exact ((Since.refl _).alloc _).alloc _
theorem row_lit (W : World) (t : TypeId) (P : List (Stp × Value)) (g : Nat) (hg : W.heap.size = g) (h : ∀ p ∈ P, ∃ a c, p.2 = .slice a p.1.2.2.length c ∧ CiteRow W p.2 p.1.2.2) : StpRow (W.alloc (.cells (rowP P).toArray t)) (.slice (some ⟨g, 0, none⟩) (P.map Prod.fst).length (P.map Prod.fst).length) (P.map Prod.fst) := by
  subst hg
  refine ⟨_, _, rfl, Nat.le_refl _, fun _ => ⟨W.heap.size, 0, rfl, fun k hk => ?_⟩⟩
  have hk' : k < P.length := by simpa using hk
  have at_ : ∀ j, j < 13 → (W.alloc (.cells (rowP P).toArray t)).cell? ⟨W.heap.size, 0 + k * 13 + j, none⟩ = (stpA P[k].1 P[k].2).toList[j]? := by
    intro j hj
    rw [World.cell?_alloc_new, Nat.zero_add, ← rowP_at P k j hk' hj]
    simp
  have e : (P.map Prod.fst)[k] = P[k].1 := by simp
  rw [e]
  obtain ⟨a, c, hsv, hc⟩ := h P[k] (List.getElem_mem hk')
  have hc2 := hc.next ((Since.refl W).alloc (.cells (rowP P).toArray t))
  generalize P[k] = p at *
  obtain ⟨x, sv⟩ := p
  simp only at hsv at_ hc2
  subst hsv
  refine ⟨fun j u hu => ?_, ?_, a, c, ?_, hc2⟩
  · have hj : j < 11 := (Array.getElem?_eq_some_iff.1 hu).1
    rw [at_ j (by omega)]
    match j, hj with
    | 0, _ => exact hu
    | 1, _ => exact hu
    | 2, _ => exact hu
    | 3, _ => exact hu
    | 4, _ => exact hu
    | 5, _ => exact hu
    | 6, _ => exact hu
    | 7, _ => exact hu
    | 8, _ => exact hu
    | 9, _ => exact hu
    | 10, _ => exact hu
  · rw [at_ 11 (by omega)]; rfl
  · rw [at_ 12 (by omega)]; rfl
theorem cite_zero (W : World) : CiteRow W (.slice none 0 0) [] := ⟨none, 0, rfl, fun h => absurd h (Nat.lt_irrefl 0)⟩
theorem cite_one (W : World) (t : TypeId) : CiteRow (W.alloc (.cells #[.int .i64 0] t)) (.slice (some ⟨W.heap.size, 0, none⟩) 1 1) [0] := by
  refine ⟨_, 1, rfl, fun _ => ⟨W.heap.size, 0, rfl, Nat.le_refl _, fun j hj => ?_⟩⟩
  have hj1 : j < 1 := hj
  obtain rfl : j = 0 := by omega
  rw [World.cell?_alloc_new]; rfl
def stpC : Stp := ((([97], [112], 1, (false, [99]), (false, []), (false, []), (false, [])) : Atm), -1, [])
def stpD : Stp := ((([97], [112], 1, (false, [100]), (false, []), (false, []), (false, [])) : Atm), 0, [0])
def stpE : Stp := ((([97], [112], 1, (false, [99]), (false, []), (false, []), (false, [])) : Atm), 0, [0])
theorem may2 : maysB [stpC, stpD] = true := by decide +kernel
theorem may1 : maysB [stpE] = false := by decide +kernel
theorem bytes2 : stepsB [stpC, stpD] = [2, 0, 1, 97, 1, 112, 1, 0, 1, 99, 0, 1, 1, 97, 1, 112, 1, 0, 1, 100, 1, 0] := by decide +kernel
theorem stpC_w (L : List Stp) (h : L.length ≤ 2) (h2 : ∀ x ∈ L, x = stpC ∨ x = stpD ∨ x = stpE) : LightW L ∧ FitsS L := by
  have hl : ∀ x ∈ L, lightB x.1 = true ∧ x.2.2.length ≤ 20 ∧ checkA x.1 = 0 := by
    intro x hx
    rcases h2 x hx with rfl | rfl | rfl
    · exact ⟨by decide +kernel, by decide +kernel, by decide +kernel⟩
    · exact ⟨by decide +kernel, by decide +kernel, by decide +kernel⟩
    · exact ⟨by decide +kernel, by decide +kernel, by decide +kernel⟩
  exact ⟨LightS.w ⟨by omega, fun x hx => ⟨(hl x hx).1, (hl x hx).2.1⟩⟩, fun x hx => valid_fits (hl x hx).2.2⟩

def findRegion (k : Nat) : Code → Option Code
  | .region id ops b => if id = k then some (.region id ops b) else none
  | .seq a b => match findRegion k a with
    | some c => some c
    | none => findRegion k b
  | .block _ c => findRegion k c
  | _ => none
noncomputable def lastReg : Code := ((Tryd.f5.body.bind (findRegion 20)).getD .skip)
noncomputable def regOps : Array Oper := match lastReg with
  | .region _ ops _ => ops
  | _ => #[]
set_option maxHeartbeats 0 in
set_option maxRecDepth 100000 in
theorem reg_two (c0 c4 c5 c7 c8 c10 c11 c21 c23 c24 c26 c27 c30 c34 c36 c38 c42 c43 c44 c45 c46 c47 c48 c49 c50 c51 c52 c53 c54 c55 c56 c57 c58 c59 c60 c61 c62 c63 c64 c65 c66 c67 c68 c69 c70 c71 c72 c73 c74 c75 c76 c77 c78 c79 c80 c81 c82 c83 c84 c85 c86 c87 c88 c89 c90 c91 c92 c93 c94 c95 c96 c97 c98 c99 c100 c101 c102 c103 c104 c105 c106 c107 c108 c109 c110 c111 c112 c113 c114 c115 c116 c117 c118 c119 c120 c121 c122 c123 c124 c125 c126 c127 c128 c129 c130 c131 c132 c133 c134 c135 c136 c137 c138 c139 c140 c141 c142 c143 c144 c145 c146 c147 c148 c149 c150 c151 c152 c153 c154 c155 c156 c157 c158 c159 c160 c161 c162 c163 c164 c165 c166 c167 c168 c169 c170 c171 c172 c173 c174 c175 c176 c177 c178 c179 c180 c181 c183 c184 c185 c186 c187 c188 c189 c190 c191 c192 c193 c194 c195 c196 c197 c198 c199 c200 c201 c202 c203 c204 c205 c206 c207 c208 c209 c210 c211 c212 c213 c214 c215 c216 c217 c218 c219 c220 c221 c222 c223 c224 c225 c226 c227 c228 c229 c230 c231 c232 rv : Value) (ra : Option Addr) (rc gx gs : Nat) (w0 : World) (Q0 : Exit → Act → World → Prop)
    (hQ0 : ∀ c a i v w, Q0 (.panic c) (a.put (some i) v) w → Q0 (.panic c) a w)
    (_HOF : Hid (∀ W, Calls Tryd.prog 18 #[.string ⟨#[97]⟩, .string ⟨#[112]⟩, .string ⟨#[88]⟩] W fun e w' => e = .returned (.agg #[.string ⟨#[97]⟩, .string ⟨#[112]⟩, .int .i64 1, .bool true, .string ⟨#[88]⟩, .bool false, .string ⟨#[]⟩, .bool false, .string ⟨#[]⟩, .bool false, .string ⟨#[]⟩]) ∧ Since W w'))
    (HSM : Hid (∀ v b W, StpRow W v [stpC, stpD] → StpRow W (.slice (some ⟨b, 0, none⟩) 2 2) [stpC, stpD] → Calls Tryd.prog 14 #[v, .slice (some ⟨b, 0, none⟩) 2 2] W fun e w' => e = .returned (.bool true) ∧ Since W w'))
    (_HB : Box w0 gx (([97], [112], 1, (true, [88]), (false, []), (false, []), (false, [])) : Atm)) (hrv1 : StpRow w0 rv [stpC, stpD]) (hrw1 : StpRow w0 (.slice (some ⟨gs, 0, none⟩) 2 2) [stpC, stpD])
    (w1 : World) (hs1 : Since w0 w1)
    (hexit : ∀ (L' : List Value) w', L'.toArray.getD 0 undef = .bool true → Since w0 w' → Q0 .normal ⟨L'.toArray, []⟩ w') :
    wpAnyH Tryd.prog .any regOps Q0 (fun W => Since w0 W) 51 ([true, true, true, true, true, true, true, true, true, true, true, true, true, true, true, true, true, true, true, true, true, true, true, true, true, true, true, true, true, true, true, true, true, true, true, true, true, true, true, true, true, true, true, true, true, true, true, true, true, true, true, false, false, false, false, false, false, false, false, false, false, false, false, false, false, false, false, false, false, false, false, false, false, false, false, false, false, false, false, false, false, false, false, false, false, false, false, false, false, false, false, false, false, false, false, false, false, false, false, false, false, false] : List Bool).toArray ⟨([c0, .int .u32 300, .int .i64 2, .int .i64 0, c4, c5, .int .i64 15, c7, c8, .int .i64 15, c10, c11, .int .i64 15, .int .u32 4294967295, .int .i64 5, .int .i64 0, .string ⟨#[1, 97, 1, 112, 1, 1, 1, 88]⟩, .int .i64 0, .pointer (some ⟨gx, 0, none⟩), .int .i64 8, .int .i64 0, c21, .int .i64 2, c23, c24, .int .i64 15, c26, c27, .int .i64 15, .slice (some ⟨gs, 0, none⟩) 2 2, c30, .int .i64 0, rv, .int .i64 0, c34, .int .i64 15, c36, .int .i64 15, c38, .int .i64 2, .slice ra 0 rc, .int .i64 0, c42, c43, c44, c45, c46, c47, c48, c49, c50, c51, c52, c53, c54, c55, c56, c57, c58, c59, c60, c61, c62, c63, c64, c65, c66, c67, c68, c69, c70, c71, c72, c73, c74, c75, c76, c77, c78, c79, c80, c81, c82, c83, c84, c85, c86, c87, c88, c89, c90, c91, c92, c93, c94, c95, c96, c97, c98, c99, c100, c101, c102, c103, c104, c105, c106, c107, c108, c109, c110, c111, c112, c113, c114, c115, c116, c117, c118, c119, c120, c121, c122, c123, c124, c125, c126, c127, c128, c129, c130, c131, c132, c133, c134, c135, c136, c137, c138, c139, c140, c141, c142, c143, c144, c145, c146, c147, c148, c149, c150, c151, c152, c153, c154, c155, c156, c157, c158, c159, c160, c161, c162, c163, c164, c165, c166, c167, c168, c169, c170, c171, c172, c173, c174, c175, c176, c177, c178, c179, c180, c181, .bool true, c183, c184, c185, c186, c187, c188, c189, c190, c191, c192, c193, c194, c195, c196, c197, c198, c199, c200, c201, c202, c203, c204, c205, c206, c207, c208, c209, c210, c211, c212, c213, c214, c215, c216, c217, c218, c219, c220, c221, c222, c223, c224, c225, c226, c227, c228, c229, c230, c231, c232] : List Value).toArray, []⟩ w1 := by
  have hns : Region.noSelect regOps = true := by kernel_rfl
  have hQ := hQ0
  revert hns
  conv => arg 1; arg 1; arg 1; whnf
  conv => arg 2; arg 3; whnf
  simp only [List.append_eq, List.cons_append, List.nil_append]
  intro hns
  refine hy_take (i := 51) (oi := _) (v := .bool true) rfl rfl hns (by kernel_rfl) (by kernel_rfl) hQ (by kernel_rfl) (fun _ _ => by kernel_rfl) hs1 ?_
  dsimp only [List.set_cons_zero, List.set_cons_succ]
  refine hy_take (i := 52) (oi := _) (v := .int .i64 8) rfl rfl hns (by kernel_rfl) (by kernel_rfl) hQ (by kernel_rfl) (fun _ _ => by kernel_rfl) hs1 ?_
  dsimp only [List.set_cons_zero, List.set_cons_succ]
  refine hy_take (i := 53) (oi := _) (v := .bool true) rfl rfl hns (by kernel_rfl) (by kernel_rfl) hQ (by kernel_rfl) (fun W _ => eqc_int _ _ _ rfl _ 8 (by kernel_rfl) (by kernel_rfl) W) hs1 ?_
  dsimp only [List.set_cons_zero, List.set_cons_succ]
  refine hy_take (i := 54) (oi := _) (v := .bool true) rfl rfl hns (by kernel_rfl) (by kernel_rfl) hQ (by kernel_rfl) (fun _ _ => by kernel_rfl) hs1 ?_
  dsimp only [List.set_cons_zero, List.set_cons_succ]
  refine hy_take (i := 55) (oi := _) (v := .bool true) rfl rfl hns (by kernel_rfl) (by kernel_rfl) hQ (by kernel_rfl) (fun _ _ => by kernel_rfl) hs1 ?_
  dsimp only [List.set_cons_zero, List.set_cons_succ]
  refine hy_take (i := 56) (oi := _) (v := .int .i64 2) rfl rfl hns (by kernel_rfl) (by kernel_rfl) hQ (by kernel_rfl) (fun _ _ => by kernel_rfl) hs1 ?_
  dsimp only [List.set_cons_zero, List.set_cons_succ]
  refine hy_take (i := 57) (oi := _) (v := .bool true) rfl rfl hns (by kernel_rfl) (by kernel_rfl) hQ (by kernel_rfl) (fun W _ => eqc_err _ _ _ rfl _ 2 (by kernel_rfl) (by kernel_rfl) W) hs1 ?_
  dsimp only [List.set_cons_zero, List.set_cons_succ]
  refine hy_take (i := 58) (oi := _) (v := .bool true) rfl rfl hns (by kernel_rfl) (by kernel_rfl) hQ (by kernel_rfl) (fun _ _ => by kernel_rfl) hs1 ?_
  dsimp only [List.set_cons_zero, List.set_cons_succ]
  refine hy_take (i := 59) (oi := _) (v := .bool true) rfl rfl hns (by kernel_rfl) (by kernel_rfl) hQ (by kernel_rfl) (fun _ _ => by kernel_rfl) hs1 ?_
  dsimp only [List.set_cons_zero, List.set_cons_succ]
  refine hy_take (i := 60) (oi := _) (v := .int .i64 15) rfl rfl hns (by kernel_rfl) (by kernel_rfl) hQ (by kernel_rfl) (fun _ _ => by kernel_rfl) hs1 ?_
  dsimp only [List.set_cons_zero, List.set_cons_succ]
  refine hy_take (i := 61) (oi := _) (v := .bool true) rfl rfl hns (by kernel_rfl) (by kernel_rfl) hQ (by kernel_rfl) (fun W _ => eqc_err _ _ _ rfl _ 15 (by kernel_rfl) (by kernel_rfl) W) hs1 ?_
  dsimp only [List.set_cons_zero, List.set_cons_succ]
  refine hy_take (i := 62) (oi := _) (v := .bool true) rfl rfl hns (by kernel_rfl) (by kernel_rfl) hQ (by kernel_rfl) (fun _ _ => by kernel_rfl) hs1 ?_
  dsimp only [List.set_cons_zero, List.set_cons_succ]
  refine hy_take (i := 63) (oi := _) (v := .bool true) rfl rfl hns (by kernel_rfl) (by kernel_rfl) hQ (by kernel_rfl) (fun _ _ => by kernel_rfl) hs1 ?_
  dsimp only [List.set_cons_zero, List.set_cons_succ]
  refine hy_take (i := 64) (oi := _) (v := .int .i64 15) rfl rfl hns (by kernel_rfl) (by kernel_rfl) hQ (by kernel_rfl) (fun _ _ => by kernel_rfl) hs1 ?_
  dsimp only [List.set_cons_zero, List.set_cons_succ]
  refine hy_take (i := 65) (oi := _) (v := .bool true) rfl rfl hns (by kernel_rfl) (by kernel_rfl) hQ (by kernel_rfl) (fun W _ => eqc_err _ _ _ rfl _ 15 (by kernel_rfl) (by kernel_rfl) W) hs1 ?_
  dsimp only [List.set_cons_zero, List.set_cons_succ]
  refine hy_take (i := 66) (oi := _) (v := .bool true) rfl rfl hns (by kernel_rfl) (by kernel_rfl) hQ (by kernel_rfl) (fun _ _ => by kernel_rfl) hs1 ?_
  dsimp only [List.set_cons_zero, List.set_cons_succ]
  refine hy_take (i := 67) (oi := _) (v := .bool true) rfl rfl hns (by kernel_rfl) (by kernel_rfl) hQ (by kernel_rfl) (fun _ _ => by kernel_rfl) hs1 ?_
  dsimp only [List.set_cons_zero, List.set_cons_succ]
  refine hy_take (i := 68) (oi := _) (v := .int .i64 0) rfl rfl hns (by kernel_rfl) (by kernel_rfl) hQ (by kernel_rfl) (fun _ _ => by kernel_rfl) hs1 ?_
  dsimp only [List.set_cons_zero, List.set_cons_succ]
  refine hy_take (i := 69) (oi := _) (v := .bool true) rfl rfl hns (by kernel_rfl) (by kernel_rfl) hQ (by kernel_rfl) (fun W _ => eqc_err _ _ _ rfl _ 0 (by kernel_rfl) (by kernel_rfl) W) hs1 ?_
  dsimp only [List.set_cons_zero, List.set_cons_succ]
  refine hy_take (i := 70) (oi := _) (v := .bool true) rfl rfl hns (by kernel_rfl) (by kernel_rfl) hQ (by kernel_rfl) (fun _ _ => by kernel_rfl) hs1 ?_
  dsimp only [List.set_cons_zero, List.set_cons_succ]
  refine hy_take (i := 71) (oi := _) (v := .bool true) rfl rfl hns (by kernel_rfl) (by kernel_rfl) hQ (by kernel_rfl) (fun _ _ => by kernel_rfl) hs1 ?_
  dsimp only [List.set_cons_zero, List.set_cons_succ]
  refine hy_take (i := 72) (oi := _) (v := .int .i64 0) rfl rfl hns (by kernel_rfl) (by kernel_rfl) hQ (by kernel_rfl) (fun _ _ => by kernel_rfl) hs1 ?_
  dsimp only [List.set_cons_zero, List.set_cons_succ]
  refine hy_take (i := 73) (oi := _) (v := .bool true) rfl rfl hns (by kernel_rfl) (by kernel_rfl) hQ (by kernel_rfl) (fun W _ => eqc_err _ _ _ rfl _ 0 (by kernel_rfl) (by kernel_rfl) W) hs1 ?_
  dsimp only [List.set_cons_zero, List.set_cons_succ]
  refine hy_take (i := 74) (oi := _) (v := .bool true) rfl rfl hns (by kernel_rfl) (by kernel_rfl) hQ (by kernel_rfl) (fun _ _ => by kernel_rfl) hs1 ?_
  dsimp only [List.set_cons_zero, List.set_cons_succ]
  refine hy_take (i := 75) (oi := _) (v := .bool true) rfl rfl hns (by kernel_rfl) (by kernel_rfl) hQ (by kernel_rfl) (fun _ _ => by kernel_rfl) hs1 ?_
  dsimp only [List.set_cons_zero, List.set_cons_succ]
  refine hy_take (i := 76) (oi := _) (v := rv) rfl rfl hns (by kernel_rfl) (by kernel_rfl) hQ (by kernel_rfl) (fun _ _ => by kernel_rfl) hs1 ?_
  dsimp only [List.set_cons_zero, List.set_cons_succ]
  refine hy_take (i := 77) (oi := _) (v := .slice (some ⟨gs, 0, none⟩) 2 2) rfl rfl hns (by kernel_rfl) (by kernel_rfl) hQ (by kernel_rfl) (fun _ _ => by kernel_rfl) hs1 ?_
  dsimp only [List.set_cons_zero, List.set_cons_succ]
  refine hy_call (i := 78) (oi := _) 14 #[rv, .slice (some ⟨gs, 0, none⟩) 2 2] rfl rfl (by kernel_rfl) (by kernel_rfl) (by kernel_rfl) (HSM.out _ _ _ (hrv1.next hs1) (hrw1.next hs1)) ?_
  rintro e wy2 ⟨rfl, hb⟩
  have hs2 : Since w0 wy2 := hs1.trans hb
  clear hb
  refine ⟨_, rfl, hs2, ?_⟩
  dsimp only [List.set_cons_zero, List.set_cons_succ]
  refine hy_take (i := 79) (oi := _) (v := .bool true) rfl rfl hns (by kernel_rfl) (by kernel_rfl) hQ (by kernel_rfl) (fun _ _ => by kernel_rfl) hs2 ?_
  dsimp only [List.set_cons_zero, List.set_cons_succ]
  refine hy_take (i := 80) (oi := _) (v := .bool true) rfl rfl hns (by kernel_rfl) (by kernel_rfl) hQ (by kernel_rfl) (fun _ _ => by kernel_rfl) hs2 ?_
  dsimp only [List.set_cons_zero, List.set_cons_succ]
  refine hy_take (i := 81) (oi := _) (v := .int .i64 15) rfl rfl hns (by kernel_rfl) (by kernel_rfl) hQ (by kernel_rfl) (fun _ _ => by kernel_rfl) hs2 ?_
  dsimp only [List.set_cons_zero, List.set_cons_succ]
  refine hy_take (i := 82) (oi := _) (v := .bool true) rfl rfl hns (by kernel_rfl) (by kernel_rfl) hQ (by kernel_rfl) (fun W _ => eqc_err _ _ _ rfl _ 15 (by kernel_rfl) (by kernel_rfl) W) hs2 ?_
  dsimp only [List.set_cons_zero, List.set_cons_succ]
  refine hy_take (i := 83) (oi := _) (v := .bool true) rfl rfl hns (by kernel_rfl) (by kernel_rfl) hQ (by kernel_rfl) (fun _ _ => by kernel_rfl) hs2 ?_
  dsimp only [List.set_cons_zero, List.set_cons_succ]
  refine hy_take (i := 84) (oi := _) (v := .bool true) rfl rfl hns (by kernel_rfl) (by kernel_rfl) hQ (by kernel_rfl) (fun _ _ => by kernel_rfl) hs2 ?_
  dsimp only [List.set_cons_zero, List.set_cons_succ]
  refine hy_take (i := 85) (oi := _) (v := .int .i64 15) rfl rfl hns (by kernel_rfl) (by kernel_rfl) hQ (by kernel_rfl) (fun _ _ => by kernel_rfl) hs2 ?_
  dsimp only [List.set_cons_zero, List.set_cons_succ]
  refine hy_take (i := 86) (oi := _) (v := .bool true) rfl rfl hns (by kernel_rfl) (by kernel_rfl) hQ (by kernel_rfl) (fun W _ => eqc_err _ _ _ rfl _ 15 (by kernel_rfl) (by kernel_rfl) W) hs2 ?_
  dsimp only [List.set_cons_zero, List.set_cons_succ]
  refine hy_take (i := 87) (oi := _) (v := .bool true) rfl rfl hns (by kernel_rfl) (by kernel_rfl) hQ (by kernel_rfl) (fun _ _ => by kernel_rfl) hs2 ?_
  dsimp only [List.set_cons_zero, List.set_cons_succ]
  refine hy_take (i := 88) (oi := _) (v := .bool true) rfl rfl hns (by kernel_rfl) (by kernel_rfl) hQ (by kernel_rfl) (fun _ _ => by kernel_rfl) hs2 ?_
  dsimp only [List.set_cons_zero, List.set_cons_succ]
  refine hy_take (i := 89) (oi := _) (v := .int .i64 2) rfl rfl hns (by kernel_rfl) (by kernel_rfl) hQ (by kernel_rfl) (fun _ _ => by kernel_rfl) hs2 ?_
  dsimp only [List.set_cons_zero, List.set_cons_succ]
  refine hy_take (i := 90) (oi := _) (v := .bool true) rfl rfl hns (by kernel_rfl) (by kernel_rfl) hQ (by kernel_rfl) (fun W _ => eqc_err _ _ _ rfl _ 2 (by kernel_rfl) (by kernel_rfl) W) hs2 ?_
  dsimp only [List.set_cons_zero, List.set_cons_succ]
  refine hy_take (i := 91) (oi := _) (v := .bool true) rfl rfl hns (by kernel_rfl) (by kernel_rfl) hQ (by kernel_rfl) (fun _ _ => by kernel_rfl) hs2 ?_
  dsimp only [List.set_cons_zero, List.set_cons_succ]
  refine hy_take (i := 92) (oi := _) (v := .bool true) rfl rfl hns (by kernel_rfl) (by kernel_rfl) hQ (by kernel_rfl) (fun _ _ => by kernel_rfl) hs2 ?_
  dsimp only [List.set_cons_zero, List.set_cons_succ]
  refine hy_take (i := 93) (oi := _) (v := .int .i64 0) rfl rfl hns (by kernel_rfl) (by kernel_rfl) hQ (by kernel_rfl) (fun _ _ => by kernel_rfl) hs2 ?_
  dsimp only [List.set_cons_zero, List.set_cons_succ]
  refine hy_take (i := 94) (oi := _) (v := .bool true) rfl rfl hns (by kernel_rfl) (by kernel_rfl) hQ (by kernel_rfl) (fun W _ => eqc_err _ _ _ rfl _ 0 (by kernel_rfl) (by kernel_rfl) W) hs2 ?_
  dsimp only [List.set_cons_zero, List.set_cons_succ]
  refine hy_take (i := 95) (oi := _) (v := .bool true) rfl rfl hns (by kernel_rfl) (by kernel_rfl) hQ (by kernel_rfl) (fun _ _ => by kernel_rfl) hs2 ?_
  dsimp only [List.set_cons_zero, List.set_cons_succ]
  refine hy_take (i := 96) (oi := _) (v := .bool true) rfl rfl hns (by kernel_rfl) (by kernel_rfl) hQ (by kernel_rfl) (fun _ _ => by kernel_rfl) hs2 ?_
  dsimp only [List.set_cons_zero, List.set_cons_succ]
  refine hy_take (i := 97) (oi := _) (v := .slice ra 0 rc) rfl rfl hns (by kernel_rfl) (by kernel_rfl) hQ (by kernel_rfl) (fun _ _ => by kernel_rfl) hs2 ?_
  dsimp only [List.set_cons_zero, List.set_cons_succ]
  refine hy_take (i := 98) (oi := _) (v := .int .i64 0) rfl rfl hns (by kernel_rfl) (by kernel_rfl) hQ (by kernel_rfl) (fun W _ => len_stp _ _ rfl _ ra 0 rc (by kernel_rfl) W) hs2 ?_
  dsimp only [List.set_cons_zero, List.set_cons_succ]
  refine hy_take (i := 99) (oi := _) (v := .bool true) rfl rfl hns (by kernel_rfl) (by kernel_rfl) hQ (by kernel_rfl) (fun W _ => eqc_int _ _ _ rfl _ 0 (by kernel_rfl) (by kernel_rfl) W) hs2 ?_
  dsimp only [List.set_cons_zero, List.set_cons_succ]
  refine hy_take (i := 100) (oi := _) (v := .bool true) rfl rfl hns (by kernel_rfl) (by kernel_rfl) hQ (by kernel_rfl) (fun _ _ => by kernel_rfl) hs2 ?_
  dsimp only [List.set_cons_zero, List.set_cons_succ]
  refine hy_take (i := 101) (oi := _) (v := .bool true) rfl rfl hns (by kernel_rfl) (by kernel_rfl) hQ (by kernel_rfl) (fun _ _ => by kernel_rfl) hs2 ?_
  refine hy_done 0 (.bool true) (by kernel_rfl) (by kernel_rfl) (fun L hL => ?_)
  exact hexit _ _ hL hs2
end Go.Proofs.YtiadjmfdahendaaDoor
