/- CertNames: its last region, the first half. -/
import Derived.Test.YtiadjmfdahendaaDoorNamesQ
namespace Go.Proofs.YtiadjmfdahendaaDoor
open Go.RowKit
attribute [local go_sem ↓] run_atomEq
attribute [local go_sem] eqA_self
set_option maxHeartbeats 0 in
set_option maxRecDepth 100000 in
theorem reg_last (c0 c4 c5 c7 c8 c10 c11 c21 c23 c24 c26 c27 c30 c34 c36 c38 c42 c43 c44 c45 c46 c47 c48 c49 c50 c51 c52 c53 c54 c55 c56 c57 c58 c59 c60 c61 c62 c63 c64 c65 c66 c67 c68 c69 c70 c71 c72 c73 c74 c75 c76 c77 c78 c79 c80 c81 c82 c83 c84 c85 c86 c87 c88 c89 c90 c91 c92 c93 c94 c95 c96 c97 c98 c99 c100 c101 c102 c103 c104 c105 c106 c107 c108 c109 c110 c111 c112 c113 c114 c115 c116 c117 c118 c119 c120 c121 c122 c123 c124 c125 c126 c127 c128 c129 c130 c131 c132 c133 c134 c135 c136 c137 c138 c139 c140 c141 c142 c143 c144 c145 c146 c147 c148 c149 c150 c151 c152 c153 c154 c155 c156 c157 c158 c159 c160 c161 c162 c163 c164 c165 c166 c167 c168 c169 c170 c171 c172 c173 c174 c175 c176 c177 c178 c179 c180 c181 c182 c183 c184 c185 c186 c187 c188 c189 c190 c191 c192 c193 c194 c195 c196 c197 c198 c199 c200 c201 c202 c203 c204 c205 c206 c207 c208 c209 c210 c211 c212 c213 c214 c215 c216 c217 c218 c219 c220 c221 c222 c223 c224 c225 c226 c227 c228 c229 c230 c231 c232 rv : Value) (ra : Option Addr) (rc gx gs : Nat) (w0 : World) (Q0 : Exit → Act → World → Prop)
    (hQ0 : ∀ c a i v w, Q0 (.panic c) (a.put (some i) v) w → Q0 (.panic c) a w)
    (HOF : Hid (∀ W, Calls Tryd.prog 18 #[.string ⟨#[97]⟩, .string ⟨#[112]⟩, .string ⟨#[88]⟩] W fun e w' => e = .returned (.agg #[.string ⟨#[97]⟩, .string ⟨#[112]⟩, .int .i64 1, .bool true, .string ⟨#[88]⟩, .bool false, .string ⟨#[]⟩, .bool false, .string ⟨#[]⟩, .bool false, .string ⟨#[]⟩]) ∧ Since W w'))
    (HSM : Hid (∀ v b W, StpRow W v [stpC, stpD] → StpRow W (.slice (some ⟨b, 0, none⟩) 2 2) [stpC, stpD] → Calls Tryd.prog 14 #[v, .slice (some ⟨b, 0, none⟩) 2 2] W fun e w' => e = .returned (.bool true) ∧ Since W w'))
    (HB : Box w0 gx (([97], [112], 1, (true, [88]), (false, []), (false, []), (false, [])) : Atm)) (hrv1 : StpRow w0 rv [stpC, stpD]) (hrw1 : StpRow w0 (.slice (some ⟨gs, 0, none⟩) 2 2) [stpC, stpD])
    (hexit : ∀ (L' : List Value) w', L'.toArray.getD 0 undef = .bool true → Since w0 w' → Q0 .normal ⟨L'.toArray, []⟩ w') :
    Code.wp Tryd.prog lastReg Q0 ⟨#[c0, .int .u32 300, .int .i64 2, .int .i64 0, c4, c5, .int .i64 15, c7, c8, .int .i64 15, c10, c11, .int .i64 15, .int .u32 4294967295, .int .i64 5, .int .i64 0, .string ⟨#[1, 97, 1, 112, 1, 1, 1, 88]⟩, .int .i64 0, .pointer (some ⟨gx, 0, none⟩), .int .i64 8, .int .i64 0, c21, .int .i64 2, c23, c24, .int .i64 15, c26, c27, .int .i64 15, .slice (some ⟨gs, 0, none⟩) 2 2, c30, .int .i64 0, rv, .int .i64 0, c34, .int .i64 15, c36, .int .i64 15, c38, .int .i64 2, .slice ra 0 rc, .int .i64 0, c42, c43, c44, c45, c46, c47, c48, c49, c50, c51, c52, c53, c54, c55, c56, c57, c58, c59, c60, c61, c62, c63, c64, c65, c66, c67, c68, c69, c70, c71, c72, c73, c74, c75, c76, c77, c78, c79, c80, c81, c82, c83, c84, c85, c86, c87, c88, c89, c90, c91, c92, c93, c94, c95, c96, c97, c98, c99, c100, c101, c102, c103, c104, c105, c106, c107, c108, c109, c110, c111, c112, c113, c114, c115, c116, c117, c118, c119, c120, c121, c122, c123, c124, c125, c126, c127, c128, c129, c130, c131, c132, c133, c134, c135, c136, c137, c138, c139, c140, c141, c142, c143, c144, c145, c146, c147, c148, c149, c150, c151, c152, c153, c154, c155, c156, c157, c158, c159, c160, c161, c162, c163, c164, c165, c166, c167, c168, c169, c170, c171, c172, c173, c174, c175, c176, c177, c178, c179, c180, c181, c182, c183, c184, c185, c186, c187, c188, c189, c190, c191, c192, c193, c194, c195, c196, c197, c198, c199, c200, c201, c202, c203, c204, c205, c206, c207, c208, c209, c210, c211, c212, c213, c214, c215, c216, c217, c218, c219, c220, c221, c222, c223, c224, c225, c226, c227, c228, c229, c230, c231, c232], []⟩ w0 := by
  conv => arg 2; whnf
  simp only [List.append_eq, List.cons_append, List.nil_append]
  have hs0 : Since w0 w0.drew := (Since.refl _).drew
  refine hy_begin (S := fun W => Since w0 W) (by kernel_rfl) hs0 (by kernel_rfl) hQ0 [false, false, false, false, false, false, false, false, false, false, false, false, false, false, false, false, false, false, false, false, false, false, false, false, false, false, false, false, false, false, false, false, false, false, false, false, false, false, false, false, false, false, false, false, false, false, false, false, false, false, false, false, false, false, false, false, false, false, false, false, false, false, false, false, false, false, false, false, false, false, false, false, false, false, false, false, false, false, false, false, false, false, false, false, false, false, false, false, false, false, false, false, false, false, false, false, false, false, false, false, false, false] 102 rfl (by kernel_rfl) (fun hns hQ => ?_)
  refine hy_take (i := 0) (oi := _) (v := .int .i64 0) rfl rfl hns (by kernel_rfl) (by kernel_rfl) hQ (by kernel_rfl) (fun _ _ => by kernel_rfl) hs0 ?_
  dsimp only [List.set_cons_zero, List.set_cons_succ]
  refine hy_take (i := 1) (oi := _) (v := .bool true) rfl rfl hns (by kernel_rfl) (by kernel_rfl) hQ (by kernel_rfl) (fun W _ => eqc_err _ _ _ rfl _ 0 (by kernel_rfl) (by kernel_rfl) W) hs0 ?_
  dsimp only [List.set_cons_zero, List.set_cons_succ]
  refine hy_take (i := 2) (oi := _) (v := .bool true) rfl rfl hns (by kernel_rfl) (by kernel_rfl) hQ (by kernel_rfl) (fun _ _ => by kernel_rfl) hs0 ?_
  dsimp only [List.set_cons_zero, List.set_cons_succ]
  refine hy_take (i := 3) (oi := _) (v := .int .u32 300) rfl rfl hns (by kernel_rfl) (by kernel_rfl) hQ (by kernel_rfl) (fun _ _ => by kernel_rfl) hs0 ?_
  dsimp only [List.set_cons_zero, List.set_cons_succ]
  refine hy_take (i := 4) (oi := _) (v := .bool true) rfl rfl hns (by kernel_rfl) (by kernel_rfl) hQ (by kernel_rfl) (fun W _ => eqc_u32 _ _ _ rfl _ 300 (by kernel_rfl) (by kernel_rfl) W) hs0 ?_
  dsimp only [List.set_cons_zero, List.set_cons_succ]
  refine hy_take (i := 5) (oi := _) (v := .bool true) rfl rfl hns (by kernel_rfl) (by kernel_rfl) hQ (by kernel_rfl) (fun _ _ => by kernel_rfl) hs0 ?_
  dsimp only [List.set_cons_zero, List.set_cons_succ]
  refine hy_take (i := 6) (oi := _) (v := .bool true) rfl rfl hns (by kernel_rfl) (by kernel_rfl) hQ (by kernel_rfl) (fun _ _ => by kernel_rfl) hs0 ?_
  dsimp only [List.set_cons_zero, List.set_cons_succ]
  refine hy_take (i := 7) (oi := _) (v := .int .i64 2) rfl rfl hns (by kernel_rfl) (by kernel_rfl) hQ (by kernel_rfl) (fun _ _ => by kernel_rfl) hs0 ?_
  dsimp only [List.set_cons_zero, List.set_cons_succ]
  refine hy_take (i := 8) (oi := _) (v := .bool true) rfl rfl hns (by kernel_rfl) (by kernel_rfl) hQ (by kernel_rfl) (fun W _ => eqc_int _ _ _ rfl _ 2 (by kernel_rfl) (by kernel_rfl) W) hs0 ?_
  dsimp only [List.set_cons_zero, List.set_cons_succ]
  refine hy_take (i := 9) (oi := _) (v := .bool true) rfl rfl hns (by kernel_rfl) (by kernel_rfl) hQ (by kernel_rfl) (fun _ _ => by kernel_rfl) hs0 ?_
  dsimp only [List.set_cons_zero, List.set_cons_succ]
  refine hy_take (i := 10) (oi := _) (v := .bool true) rfl rfl hns (by kernel_rfl) (by kernel_rfl) hQ (by kernel_rfl) (fun _ _ => by kernel_rfl) hs0 ?_
  dsimp only [List.set_cons_zero, List.set_cons_succ]
  refine hy_take (i := 11) (oi := _) (v := .int .i64 15) rfl rfl hns (by kernel_rfl) (by kernel_rfl) hQ (by kernel_rfl) (fun _ _ => by kernel_rfl) hs0 ?_
  dsimp only [List.set_cons_zero, List.set_cons_succ]
  refine hy_take (i := 12) (oi := _) (v := .bool true) rfl rfl hns (by kernel_rfl) (by kernel_rfl) hQ (by kernel_rfl) (fun W _ => eqc_err _ _ _ rfl _ 15 (by kernel_rfl) (by kernel_rfl) W) hs0 ?_
  dsimp only [List.set_cons_zero, List.set_cons_succ]
  refine hy_take (i := 13) (oi := _) (v := .bool true) rfl rfl hns (by kernel_rfl) (by kernel_rfl) hQ (by kernel_rfl) (fun _ _ => by kernel_rfl) hs0 ?_
  dsimp only [List.set_cons_zero, List.set_cons_succ]
  refine hy_take (i := 14) (oi := _) (v := .bool true) rfl rfl hns (by kernel_rfl) (by kernel_rfl) hQ (by kernel_rfl) (fun _ _ => by kernel_rfl) hs0 ?_
  dsimp only [List.set_cons_zero, List.set_cons_succ]
  refine hy_take (i := 15) (oi := _) (v := .int .i64 15) rfl rfl hns (by kernel_rfl) (by kernel_rfl) hQ (by kernel_rfl) (fun _ _ => by kernel_rfl) hs0 ?_
  dsimp only [List.set_cons_zero, List.set_cons_succ]
  refine hy_take (i := 16) (oi := _) (v := .bool true) rfl rfl hns (by kernel_rfl) (by kernel_rfl) hQ (by kernel_rfl) (fun W _ => eqc_err _ _ _ rfl _ 15 (by kernel_rfl) (by kernel_rfl) W) hs0 ?_
  dsimp only [List.set_cons_zero, List.set_cons_succ]
  refine hy_take (i := 17) (oi := _) (v := .bool true) rfl rfl hns (by kernel_rfl) (by kernel_rfl) hQ (by kernel_rfl) (fun _ _ => by kernel_rfl) hs0 ?_
  dsimp only [List.set_cons_zero, List.set_cons_succ]
  refine hy_take (i := 18) (oi := _) (v := .bool true) rfl rfl hns (by kernel_rfl) (by kernel_rfl) hQ (by kernel_rfl) (fun _ _ => by kernel_rfl) hs0 ?_
  dsimp only [List.set_cons_zero, List.set_cons_succ]
  refine hy_take (i := 19) (oi := _) (v := .int .i64 15) rfl rfl hns (by kernel_rfl) (by kernel_rfl) hQ (by kernel_rfl) (fun _ _ => by kernel_rfl) hs0 ?_
  dsimp only [List.set_cons_zero, List.set_cons_succ]
  refine hy_take (i := 20) (oi := _) (v := .bool true) rfl rfl hns (by kernel_rfl) (by kernel_rfl) hQ (by kernel_rfl) (fun W _ => eqc_err _ _ _ rfl _ 15 (by kernel_rfl) (by kernel_rfl) W) hs0 ?_
  dsimp only [List.set_cons_zero, List.set_cons_succ]
  refine hy_take (i := 21) (oi := _) (v := .bool true) rfl rfl hns (by kernel_rfl) (by kernel_rfl) hQ (by kernel_rfl) (fun _ _ => by kernel_rfl) hs0 ?_
  dsimp only [List.set_cons_zero, List.set_cons_succ]
  refine hy_take (i := 22) (oi := _) (v := .bool true) rfl rfl hns (by kernel_rfl) (by kernel_rfl) hQ (by kernel_rfl) (fun _ _ => by kernel_rfl) hs0 ?_
  dsimp only [List.set_cons_zero, List.set_cons_succ]
  refine hy_take (i := 23) (oi := _) (v := .int .i64 0) rfl rfl hns (by kernel_rfl) (by kernel_rfl) hQ (by kernel_rfl) (fun _ _ => by kernel_rfl) hs0 ?_
  dsimp only [List.set_cons_zero, List.set_cons_succ]
  refine hy_take (i := 24) (oi := _) (v := .bool true) rfl rfl hns (by kernel_rfl) (by kernel_rfl) hQ (by kernel_rfl) (fun W _ => eqc_err _ _ _ rfl _ 0 (by kernel_rfl) (by kernel_rfl) W) hs0 ?_
  dsimp only [List.set_cons_zero, List.set_cons_succ]
  refine hy_take (i := 25) (oi := _) (v := .bool true) rfl rfl hns (by kernel_rfl) (by kernel_rfl) hQ (by kernel_rfl) (fun _ _ => by kernel_rfl) hs0 ?_
  dsimp only [List.set_cons_zero, List.set_cons_succ]
  refine hy_take (i := 26) (oi := _) (v := .bool true) rfl rfl hns (by kernel_rfl) (by kernel_rfl) hQ (by kernel_rfl) (fun _ _ => by kernel_rfl) hs0 ?_
  dsimp only [List.set_cons_zero, List.set_cons_succ]
  refine hy_take (i := 27) (oi := _) (v := .int .u32 4294967295) rfl rfl hns (by kernel_rfl) (by kernel_rfl) hQ (by kernel_rfl) (fun _ _ => by kernel_rfl) hs0 ?_
  dsimp only [List.set_cons_zero, List.set_cons_succ]
  refine hy_take (i := 28) (oi := _) (v := .bool true) rfl rfl hns (by kernel_rfl) (by kernel_rfl) hQ (by kernel_rfl) (fun W _ => eqc_u32 _ _ _ rfl _ 4294967295 (by kernel_rfl) (by kernel_rfl) W) hs0 ?_
  dsimp only [List.set_cons_zero, List.set_cons_succ]
  refine hy_take (i := 29) (oi := _) (v := .bool true) rfl rfl hns (by kernel_rfl) (by kernel_rfl) hQ (by kernel_rfl) (fun _ _ => by kernel_rfl) hs0 ?_
  dsimp only [List.set_cons_zero, List.set_cons_succ]
  refine hy_take (i := 30) (oi := _) (v := .bool true) rfl rfl hns (by kernel_rfl) (by kernel_rfl) hQ (by kernel_rfl) (fun _ _ => by kernel_rfl) hs0 ?_
  dsimp only [List.set_cons_zero, List.set_cons_succ]
  refine hy_take (i := 31) (oi := _) (v := .int .i64 5) rfl rfl hns (by kernel_rfl) (by kernel_rfl) hQ (by kernel_rfl) (fun _ _ => by kernel_rfl) hs0 ?_
  dsimp only [List.set_cons_zero, List.set_cons_succ]
  refine hy_take (i := 32) (oi := _) (v := .bool true) rfl rfl hns (by kernel_rfl) (by kernel_rfl) hQ (by kernel_rfl) (fun W _ => eqc_int _ _ _ rfl _ 5 (by kernel_rfl) (by kernel_rfl) W) hs0 ?_
  dsimp only [List.set_cons_zero, List.set_cons_succ]
  refine hy_take (i := 33) (oi := _) (v := .bool true) rfl rfl hns (by kernel_rfl) (by kernel_rfl) hQ (by kernel_rfl) (fun _ _ => by kernel_rfl) hs0 ?_
  dsimp only [List.set_cons_zero, List.set_cons_succ]
  refine hy_take (i := 34) (oi := _) (v := .bool true) rfl rfl hns (by kernel_rfl) (by kernel_rfl) hQ (by kernel_rfl) (fun _ _ => by kernel_rfl) hs0 ?_
  dsimp only [List.set_cons_zero, List.set_cons_succ]
  refine hy_take (i := 35) (oi := _) (v := .int .i64 0) rfl rfl hns (by kernel_rfl) (by kernel_rfl) hQ (by kernel_rfl) (fun _ _ => by kernel_rfl) hs0 ?_
  dsimp only [List.set_cons_zero, List.set_cons_succ]
  refine hy_take (i := 36) (oi := _) (v := .bool true) rfl rfl hns (by kernel_rfl) (by kernel_rfl) hQ (by kernel_rfl) (fun W _ => eqc_err _ _ _ rfl _ 0 (by kernel_rfl) (by kernel_rfl) W) hs0 ?_
  dsimp only [List.set_cons_zero, List.set_cons_succ]
  refine hy_take (i := 37) (oi := _) (v := .bool true) rfl rfl hns (by kernel_rfl) (by kernel_rfl) hQ (by kernel_rfl) (fun _ _ => by kernel_rfl) hs0 ?_
  dsimp only [List.set_cons_zero, List.set_cons_succ]
  refine hy_take (i := 38) (oi := _) (v := .bool true) rfl rfl hns (by kernel_rfl) (by kernel_rfl) hQ (by kernel_rfl) (fun _ _ => by kernel_rfl) hs0 ?_
  dsimp only [List.set_cons_zero, List.set_cons_succ]
  refine hy_take (i := 39) (oi := _) (v := .string ⟨#[1, 97, 1, 112, 1, 1, 1, 88]⟩) rfl rfl hns (by kernel_rfl) (by kernel_rfl) hQ (by kernel_rfl) (fun _ _ => by kernel_rfl) hs0 ?_
  dsimp only [List.set_cons_zero, List.set_cons_succ]
  refine hy_take (i := 40) (oi := _) (v := .bool true) rfl rfl hns (by kernel_rfl) (by kernel_rfl) hQ (by kernel_rfl) (fun W _ => eqc_str _ _ _ rfl _ ⟨#[1, 97, 1, 112, 1, 1, 1, 88]⟩ (by kernel_rfl) (by kernel_rfl) W) hs0 ?_
  dsimp only [List.set_cons_zero, List.set_cons_succ]
  refine hy_take (i := 41) (oi := _) (v := .bool true) rfl rfl hns (by kernel_rfl) (by kernel_rfl) hQ (by kernel_rfl) (fun _ _ => by kernel_rfl) hs0 ?_
  dsimp only [List.set_cons_zero, List.set_cons_succ]
  refine hy_take (i := 42) (oi := _) (v := .bool true) rfl rfl hns (by kernel_rfl) (by kernel_rfl) hQ (by kernel_rfl) (fun _ _ => by kernel_rfl) hs0 ?_
  dsimp only [List.set_cons_zero, List.set_cons_succ]
  refine hy_take (i := 43) (oi := _) (v := .int .i64 0) rfl rfl hns (by kernel_rfl) (by kernel_rfl) hQ (by kernel_rfl) (fun _ _ => by kernel_rfl) hs0 ?_
  dsimp only [List.set_cons_zero, List.set_cons_succ]
  refine hy_take (i := 44) (oi := _) (v := .bool true) rfl rfl hns (by kernel_rfl) (by kernel_rfl) hQ (by kernel_rfl) (fun W _ => eqc_err _ _ _ rfl _ 0 (by kernel_rfl) (by kernel_rfl) W) hs0 ?_
  dsimp only [List.set_cons_zero, List.set_cons_succ]
  refine hy_take (i := 45) (oi := _) (v := .bool true) rfl rfl hns (by kernel_rfl) (by kernel_rfl) hQ (by kernel_rfl) (fun _ _ => by kernel_rfl) hs0 ?_
  dsimp only [List.set_cons_zero, List.set_cons_succ]
  refine hy_take (i := 46) (oi := _) (v := .bool true) rfl rfl hns (by kernel_rfl) (by kernel_rfl) hQ (by kernel_rfl) (fun _ _ => by kernel_rfl) hs0 ?_
  dsimp only [List.set_cons_zero, List.set_cons_succ]
  refine hy_take (i := 47) (oi := _) (v := .agg #[.string ⟨#[97]⟩, .string ⟨#[112]⟩, .int .i64 1, .bool true, .string ⟨#[88]⟩, .bool false, .string ⟨#[]⟩, .bool false, .string ⟨#[]⟩, .bool false, .string ⟨#[]⟩]) rfl rfl hns (by kernel_rfl) (by kernel_rfl) hQ (by kernel_rfl) (fun W hW => ldc_atom _ _ rfl _ _ (by kernel_rfl) [97] [112] 1 true false false false [88] [] [] [] W (HB.next hW)) hs0 ?_
  dsimp only [List.set_cons_zero, List.set_cons_succ]
  refine hy_call (i := 48) (oi := _) 18 #[.string ⟨#[97]⟩, .string ⟨#[112]⟩, .string ⟨#[88]⟩] rfl rfl (by kernel_rfl) (by kernel_rfl) (by kernel_rfl) (HOF.out _) ?_
  rintro e wy1 ⟨rfl, hb⟩
  have hs1 : Since w0 wy1 := hs0.trans hb
  clear hb
  refine ⟨_, rfl, hs1, ?_⟩
  dsimp only [List.set_cons_zero, List.set_cons_succ]
  refine hy_take (i := 49) (oi := _) (v := .bool true) rfl rfl hns (by kernel_rfl) (by kernel_rfl) hQ (by kernel_rfl) (fun W _ => eqc_atom _ _ _ rfl _ [97] [112] 1 true false false false [88] [] [] [] (by kernel_rfl) (by kernel_rfl) W) hs1 ?_
  dsimp only [List.set_cons_zero, List.set_cons_succ]
  refine hy_take (i := 50) (oi := _) (v := .bool true) rfl rfl hns (by kernel_rfl) (by kernel_rfl) hQ (by kernel_rfl) (fun _ _ => by kernel_rfl) hs1 ?_
  dsimp only [List.set_cons_zero, List.set_cons_succ]
  exact reg_two _ _ _ _ _ _ _ _ _ _ _ _ _ _ _ _ _ _ _ _ _ _ _ _ _ _ _ _ _ _ _ _ _ _ _ _ _ _ _ _ _ _ _ _ _ _ _ _ _ _ _ _ _ _ _ _ _ _ _ _ _ _ _ _ _ _ _ _ _ _ _ _ _ _ _ _ _ _ _ _ _ _ _ _ _ _ _ _ _ _ _ _ _ _ _ _ _ _ _ _ _ _ _ _ _ _ _ _ _ _ _ _ _ _ _ _ _ _ _ _ _ _ _ _ _ _ _ _ _ _ _ _ _ _ _ _ _ _ _ _ _ _ _ _ _ _ _ _ _ _ _ _ _ _ _ _ _ _ _ _ _ _ _ _ _ _ _ _ _ _ _ _ _ _ _ _ _ _ _ _ _ _ _ _ _ _ _ _ _ _ _ _ _ _ _ _ _ _ _ _ _ _ _ _ _ _ rv ra rc gx gs w0 Q0 hQ0 HOF HSM HB hrv1 hrw1 _ hs1 hexit
end Go.Proofs.YtiadjmfdahendaaDoor
