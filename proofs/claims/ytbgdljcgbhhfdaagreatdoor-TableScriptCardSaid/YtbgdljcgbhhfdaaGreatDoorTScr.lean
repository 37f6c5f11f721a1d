/- TableScript: the walk. -/
import Derived.Test.YtbgdljcgbhhfdaaGreatDoorRtE
import Derived.Test.YtbgdljcgbhhfdaaGreatDoorActA
import Derived.Test.YtbgdljcgbhhfdaaGreatDoorHeldZ
import Derived.Deep.CutBlock
namespace Go.Proofs.YtbgdljcgbhhfdaaGreatDoor
open Go.RowKit Go.Maps Go.WideMaps
attribute [local go_sem ↓] run_atomEq
attribute [local go_sem] eqA_self

theorem Tab.keepT {B g : Nat} {Z Z' : Nat → Prop} {S : List TCall} {W W' : World} (h : Tab W B g Z S) (hk : Keep Z' W W') (hz : ∀ b, Z b → ¬ Z' b) : Tab W' B g Z S := h.stand hk.size fun b hb => hk.block b (h.low b hb).2 (hz b hb)
/-- Both tables hold the same calls. -/
def SSt (w W : World) (B g D r k : Nat) : Prop := ∃ S Z Y, Since w W ∧ Tab W B g Z S ∧ Rtb W D r Y S ∧ (∀ b, Z b → ¬ Y b) ∧ OkS k S
/-- .. and the act stands in its box. -/
def SSa (w W : World) (B g D r k gb : Nat) (ac : Array Value) : Prop := ∃ S Z Y, Since w W ∧ Tab W B g Z S ∧ Rtb W D r Y S ∧ (∀ b, Z b → ¬ Y b) ∧ OkS k S ∧ Cel W gb ac 35 ∧ ¬ Z gb ∧ ¬ Y gb
theorem neqs_int {o : Oper} {x y : Operand} {ev : Operand → Value} {s : Int} (ho : o.op = .binOp .neq 3 x y 3) (hx : ev x = .int .i64 s) (hy : ev y = .int .i64 s) (W : World) : (execOp ev o).run Tryz.prog W = .ok (.value (.bool false)) W := by
  simp only [execOp, ho]
  go_simp
theorem neqs_bool {o : Oper} {x y : Operand} {ev : Operand → Value} {s : Bool} (ho : o.op = .binOp .neq 4 x y 4) (hx : ev x = .bool s) (hy : ev y = .bool s) (W : World) : (execOp ev o).run Tryz.prog W = .ok (.value (.bool false)) W := by
  cases s <;> (simp only [execOp, ho]; go_simp)
theorem same_ints (v1 v2 : Value) (L : List Int) (w : World) (h1 : IRow w v1 L) (h2 : IRow w v2 L) (hm : L.length ≤ 1000000) :
    Calls Tryz.prog 22 #[v1, v2] w fun e w' => e = .returned (.bool true) ∧ Since w w' := by
  refine (ksame_int v1 v2 L L w h1 h2 hm hm).mono ?_
  rintro e w' ⟨rfl, m, rfl⟩
  exact ⟨by rw [decide_eq_true rfl], (Since.refl _).drewN m⟩
def findRegion (k : Nat) : Code → Option Code
  | .region id ops b => if id = k then some (.region id ops b) else none
  | .seq a b => match findRegion k a with
    | some c => some c
    | none => findRegion k b
  | .block _ c => findRegion k c
  | .cond _ a b => match findRegion k a with
    | some c => some c
    | none => findRegion k b
  | .loop c => findRegion k c
  | .scope c => findRegion k c
  | _ => none
noncomputable def reg27 : Code := ((Tryz.f3.body.bind (findRegion 27)).getD .skip)
theorem hz_end {P : Program} {md : Region.Mode} {ops : Array Oper} {n fuel m : Nat} {Q : Exit → Act → World → Prop} {S : World → Prop} {f : Nat → Option Value} {ds : List Deferred} {w : World} (M : List Value) (hg : zgood md ops n = true) (hr : zready md m ops.toList 0 = []) (hM : (List.range n).map f = M.map some) (h : Q .normal ⟨M.toArray, ds⟩ w) : Wf P md ops n Q S fuel m f ds w := by
  intro L listed hlen hL hl
  have e : L = M := by
    have hl2 : M.length = n := by have := congrArg List.length hM; simpa using this.symm
    apply List.ext_getElem?
    intro t
    rw [hL]
    by_cases ht : t < n
    · have h1 := congrArg (fun l => l[t]?) hM
      simp only [List.getElem?_map, List.getElem?_range ht, Option.map_some] at h1
      have h2 : M[t]? = some (M[t]'(by omega)) := List.getElem?_eq_getElem (by omega)
      rw [h2] at h1 ⊢
      simpa using h1
    · rw [← hL, List.getElem?_eq_none (by omega), List.getElem?_eq_none (by omega)]
  rw [e]
  exact wpAnyH_done (by rw [zready_eq hg hl]; exact hr) h _
set_option maxHeartbeats 0 in
set_option maxRecDepth 100000 in
theorem reg27_any {c0 c1 c2 c5 c8 c9 c10 c11 c12 c13 c14 c15 c16 c17 c18 c19 c20 c21 c26 c27 c28 c29 c30 c31 c32 c33 c34 c35 c36 c37 c38 c39 c40 c41 c42 c43 c44 c45 c46 c47 c48 c49 c50 c51 c52 c53 c54 c55 c56 c57 c58 c59 c60 c61 c62 c63 c64 c65 c66 c67 c68 c69 c70 c71 c72 c73 c74 c75 c76 c77 c78 c79 c80 c81 c82 c83 c84 c85 c86 c87 c88 c89 c90 c91 c92 c93 c94 c95 c96 c97 c98 c99 c100 c101 c102 c103 c104 c105 c106 c107 c108 c109 c110 c111 c112 c113 c114 c115 c116 c117 c118 c119 c120 c121 c122 c123 c124 c125 c126 c127 c128 c129 c130 c131 c132 c133 c134 c135 c136 c137 c138 c139 c140 c141 c142 c143 c144 c145 c146 c147 c148 c149 c150 c151 c152 c153 c154 c155 c156 c157 c158 c159 c160 c161 c162 c163 c164 c165 c166 c167 c168 c169 c170 c171 c172 c173 c174 c175 c176 c177 c178 c179 c180 c181 c182 c183 c184 c185 c186 c187 c188 c189 c190 c191 c192 c193 c194 c195 c196 c197 c198 c199 c200 c201 c202 c203 c204 c205 c206 c207 c208 : Value} {g r gb g1 g2 n m rc : Nat} {ra : Option Addr} {cf : Bool} {kd id who : Int} {a_s a_p : List UInt8} {a_n : Int} {a_v0 a_v1 a_v2 a_v3 : Bool} {a_l0 a_l1 a_l2 a_l3 : List UInt8} {c_s c_p : List UInt8} {c_n : Int} {c_v0 c_v1 c_v2 c_v3 : Bool} {c_l0 c_l1 c_l2 c_l3 : List UInt8} {LW : List Int} {LN : List Atm} {wc w13 : World}
    (HTL : Hid (∀ W, Since wc W → Calls Tryz.prog 19 #[.pointer (some ⟨g, 0, none⟩)] W fun e w' => e = .returned (.int .i64 (n : Int)) ∧ Since W w'))
    (HTN : Hid (∀ W, Since wc W → Calls Tryz.prog 20 #[.pointer (some ⟨g, 0, none⟩)] W fun e w' => e = .returned (.int .i64 (m : Int)) ∧ Since W w'))
    (HRN : Hid (∀ W, Since wc W → Calls Tryz.prog 21 #[.pointer (some ⟨r, 0, none⟩)] W fun e w' => e = .returned (.int .i64 (m : Int)) ∧ Since W w'))
    (HTW : Hid (∀ W, Since wc W → Calls Tryz.prog 23 #[.pointer (some ⟨g, 0, none⟩), .int .i64 id] W fun e w' => ∃ v', e = .returned v' ∧ IRow w' v' LW ∧ Since W w'))
    (HRW : Hid (∀ W, Since wc W → Calls Tryz.prog 24 #[.pointer (some ⟨r, 0, none⟩), .int .i64 id] W fun e w' => ∃ v', e = .returned v' ∧ IRow w' v' LW ∧ Since W w'))
    (HTA : Hid (∀ W, Since wc W → Calls Tryz.prog 26 #[.pointer (some ⟨g, 0, none⟩), .int .i64 id] W fun e w' => ∃ v', e = .returned v' ∧ ARow w' v' LN ∧ Since W w'))
    (HRA : Hid (∀ W, Since wc W → Calls Tryz.prog 27 #[.pointer (some ⟨r, 0, none⟩), .int .i64 id] W fun e w' => ∃ v', e = .returned v' ∧ ARow w' v' LN ∧ Since W w'))
    (HSW : Hid (∀ W v1 v2, IRow W v1 LW → IRow W v2 LW → Calls Tryz.prog 22 #[v1, v2] W fun e w' => e = .returned (.bool true) ∧ Since W w'))
    (HSA : Hid (∀ W v1 v2, ARow W v1 LN → ARow W v2 LN → Calls Tryz.prog 25 #[v1, v2] W fun e w' => e = .returned (.bool true) ∧ Since W w'))
    (hS13 : Since wc w13) (c1A : At w13 g1 0 #[.string ⟨c_s.toArray⟩, .string ⟨c_p.toArray⟩, .int .i64 c_n, .bool c_v0, .string ⟨c_l0.toArray⟩, .bool c_v1, .string ⟨c_l1.toArray⟩, .bool c_v2, .string ⟨c_l2.toArray⟩, .bool c_v3, .string ⟨c_l3.toArray⟩]) (c2A : At w13 g2 0 #[.string ⟨c_s.toArray⟩, .string ⟨c_p.toArray⟩, .int .i64 c_n, .bool c_v0, .string ⟨c_l0.toArray⟩, .bool c_v1, .string ⟨c_l1.toArray⟩, .bool c_v2, .string ⟨c_l2.toArray⟩, .bool c_v3, .string ⟨c_l3.toArray⟩]) (gA : At w13 gb 0 #[.int .i64 kd, .string ⟨a_s.toArray⟩, .string ⟨a_p.toArray⟩, .int .i64 a_n, .bool a_v0, .string ⟨a_l0.toArray⟩, .bool a_v1, .string ⟨a_l1.toArray⟩, .bool a_v2, .string ⟨a_l2.toArray⟩, .bool a_v3, .string ⟨a_l3.toArray⟩, .int .i64 id, .int .i64 who]) (rA : At w13 r 0 #[.slice ra n rc])
    (Q : Exit → Act → World → Prop) (hQ0 : ∀ c a i v w, Q (.panic c) (a.put (some i) v) w → Q (.panic c) a w)
    (hexit : ∀ (v1 v2 v3 v4 : Value) W, Since w13 W → Q .normal ⟨[c0, c1, c2, .pointer (some ⟨g, 0, none⟩), .pointer (some ⟨r, 0, none⟩), c5, .pointer (some ⟨gb, 0, none⟩), .bool true, c8, c9, c10, c11, c12, c13, c14, c15, c16, c17, c18, c19, c20, c21, .pointer (some ⟨g1, 0, none⟩), .bool cf, .pointer (some ⟨g2, 0, none⟩), .bool cf, c26, c27, c28, c29, c30, c31, c32, c33, c34, c35, c36, c37, c38, c39, c40, c41, c42, c43, c44, c45, c46, c47, c48, c49, c50, c51, c52, c53, c54, c55, c56, c57, c58, c59, c60, c61, c62, c63, c64, c65, c66, c67, c68, c69, c70, c71, c72, c73, c74, c75, c76, c77, c78, c79, c80, c81, c82, c83, c84, c85, c86, c87, c88, c89, c90, c91, c92, c93, c94, c95, c96, c97, c98, c99, c100, c101, c102, c103, c104, c105, c106, c107, c108, c109, c110, c111, c112, c113, c114, c115, c116, c117, c118, c119, c120, c121, c122, c123, c124, c125, c126, c127, c128, c129, c130, c131, c132, c133, c134, c135, c136, c137, c138, c139, c140, c141, c142, c143, c144, c145, c146, c147, c148, c149, c150, c151, c152, c153, c154, c155, .bool true, .bool false, .bool false, .agg #[.string ⟨c_s.toArray⟩, .string ⟨c_p.toArray⟩, .int .i64 c_n, .bool c_v0, .string ⟨c_l0.toArray⟩, .bool c_v1, .string ⟨c_l1.toArray⟩, .bool c_v2, .string ⟨c_l2.toArray⟩, .bool c_v3, .string ⟨c_l3.toArray⟩], .agg #[.string ⟨c_s.toArray⟩, .string ⟨c_p.toArray⟩, .int .i64 c_n, .bool c_v0, .string ⟨c_l0.toArray⟩, .bool c_v1, .string ⟨c_l1.toArray⟩, .bool c_v2, .string ⟨c_l2.toArray⟩, .bool c_v3, .string ⟨c_l3.toArray⟩], .bool false, .bool false, .bool false, .bool cf, .bool cf, .bool false, .bool false, .bool false, .pointer (some ⟨g, 0, none⟩), .int .i64 (n : Int), .pointer (some ⟨r, 0, none⟩), .pointer (some ⟨r, 0, none⟩), .pointer (some ⟨r, 0, none⟩), .slice ra n rc, .int .i64 (n : Int), .bool false, .bool false, .bool false, .pointer (some ⟨g, 0, none⟩), .int .i64 (m : Int), .pointer (some ⟨r, 0, none⟩), .int .i64 (m : Int), .bool false, .bool false, .bool false, .pointer (some ⟨g, 0, none⟩), .pointer (some ⟨gb, 12, none⟩), .int .i64 id, v1, .pointer (some ⟨r, 0, none⟩), .pointer (some ⟨gb, 12, none⟩), .int .i64 id, v2, .bool true, .bool false, .bool false, .bool false, .pointer (some ⟨g, 0, none⟩), .pointer (some ⟨gb, 12, none⟩), .int .i64 id, v3, .pointer (some ⟨r, 0, none⟩), .pointer (some ⟨gb, 12, none⟩), .int .i64 id, v4, .bool true, .bool false, .bool false].toArray, []⟩ W) : Code.wp Tryz.prog reg27 Q ⟨[c0, c1, c2, .pointer (some ⟨g, 0, none⟩), .pointer (some ⟨r, 0, none⟩), c5, .pointer (some ⟨gb, 0, none⟩), .bool true, c8, c9, c10, c11, c12, c13, c14, c15, c16, c17, c18, c19, c20, c21, .pointer (some ⟨g1, 0, none⟩), .bool cf, .pointer (some ⟨g2, 0, none⟩), .bool cf, c26, c27, c28, c29, c30, c31, c32, c33, c34, c35, c36, c37, c38, c39, c40, c41, c42, c43, c44, c45, c46, c47, c48, c49, c50, c51, c52, c53, c54, c55, c56, c57, c58, c59, c60, c61, c62, c63, c64, c65, c66, c67, c68, c69, c70, c71, c72, c73, c74, c75, c76, c77, c78, c79, c80, c81, c82, c83, c84, c85, c86, c87, c88, c89, c90, c91, c92, c93, c94, c95, c96, c97, c98, c99, c100, c101, c102, c103, c104, c105, c106, c107, c108, c109, c110, c111, c112, c113, c114, c115, c116, c117, c118, c119, c120, c121, c122, c123, c124, c125, c126, c127, c128, c129, c130, c131, c132, c133, c134, c135, c136, c137, c138, c139, c140, c141, c142, c143, c144, c145, c146, c147, c148, c149, c150, c151, c152, c153, c154, c155, c156, c157, c158, c159, c160, c161, c162, c163, c164, c165, c166, c167, c168, c169, c170, c171, c172, c173, c174, c175, c176, c177, c178, c179, c180, c181, c182, c183, c184, c185, c186, c187, c188, c189, c190, c191, c192, c193, c194, c195, c196, c197, c198, c199, c200, c201, c202, c203, c204, c205, c206, c207, c208].toArray, []⟩ w13 := by
  conv => arg 2; whnf
  have hex := Lib.hid hexit
  clear hexit
  have hs0 : Since w13 w13.drew := (Since.refl _).drew
  refine hz_begin (n := 209) (S := fun W => Since w13 W) (by kernel_rfl) (by kernel_rfl) (by kernel_rfl) hQ0 (fun hns hQ => ?_) hs0
  refine hz_take (i := 0) (oi := _) (v := .bool true) rfl rfl hns (by kernel_rfl) hQ (by kernel_rfl) (fun _ _ => by kernel_rfl) hs0 ?_
  refine hz_take (i := 1) (oi := _) (v := .bool false) rfl rfl hns (by kernel_rfl) hQ (by kernel_rfl) (fun _ _ => by kernel_rfl) hs0 ?_
  refine hz_take (i := 2) (oi := _) (v := .bool false) rfl rfl hns (by kernel_rfl) hQ (by kernel_rfl) (fun _ _ => by kernel_rfl) hs0 ?_
  refine hz_take (i := 3) (oi := _) (v := .agg #[.string ⟨c_s.toArray⟩, .string ⟨c_p.toArray⟩, .int .i64 c_n, .bool c_v0, .string ⟨c_l0.toArray⟩, .bool c_v1, .string ⟨c_l1.toArray⟩, .bool c_v2, .string ⟨c_l2.toArray⟩, .bool c_v3, .string ⟨c_l3.toArray⟩]) rfl rfl hns (by kernel_rfl) hQ (by kernel_rfl) (fun W hW => ld_at rfl (by kernel_rfl) (by kernel_rfl) (by kernel_rfl) W (c1A.next hW)) hs0 ?_
  refine hz_take (i := 4) (oi := _) (v := .agg #[.string ⟨c_s.toArray⟩, .string ⟨c_p.toArray⟩, .int .i64 c_n, .bool c_v0, .string ⟨c_l0.toArray⟩, .bool c_v1, .string ⟨c_l1.toArray⟩, .bool c_v2, .string ⟨c_l2.toArray⟩, .bool c_v3, .string ⟨c_l3.toArray⟩]) rfl rfl hns (by kernel_rfl) hQ (by kernel_rfl) (fun W hW => ld_at rfl (by kernel_rfl) (by kernel_rfl) (by kernel_rfl) W (c2A.next hW)) hs0 ?_
  refine hz_take (i := 5) (oi := _) (v := .bool false) rfl rfl hns (by kernel_rfl) hQ (by kernel_rfl) (fun W _ => neqg_sameA c_s c_p c_n c_v0 c_v1 c_v2 c_v3 c_l0 c_l1 c_l2 c_l3 rfl (by kernel_rfl) (by kernel_rfl) W) hs0 ?_
  refine hz_take (i := 6) (oi := _) (v := .bool false) rfl rfl hns (by kernel_rfl) hQ (by kernel_rfl) (fun _ _ => by kernel_rfl) hs0 ?_
  refine hz_take (i := 7) (oi := _) (v := .bool false) rfl rfl hns (by kernel_rfl) hQ (by kernel_rfl) (fun _ _ => by kernel_rfl) hs0 ?_
  refine hz_take (i := 8) (oi := _) (v := .bool cf) rfl rfl hns (by kernel_rfl) hQ (by kernel_rfl) (fun _ _ => by kernel_rfl) hs0 ?_
  refine hz_take (i := 9) (oi := _) (v := .bool cf) rfl rfl hns (by kernel_rfl) hQ (by kernel_rfl) (fun _ _ => by kernel_rfl) hs0 ?_
  refine hz_take (i := 10) (oi := _) (v := .bool false) rfl rfl hns (by kernel_rfl) hQ (by kernel_rfl) (fun W _ => neqs_bool (s := cf) rfl (by kernel_rfl) (by kernel_rfl) W) hs0 ?_
  refine hz_take (i := 11) (oi := _) (v := .bool false) rfl rfl hns (by kernel_rfl) hQ (by kernel_rfl) (fun _ _ => by kernel_rfl) hs0 ?_
  refine hz_take (i := 12) (oi := _) (v := .bool false) rfl rfl hns (by kernel_rfl) hQ (by kernel_rfl) (fun _ _ => by kernel_rfl) hs0 ?_
  refine hz_take (i := 13) (oi := _) (v := .pointer (some ⟨g, 0, none⟩)) rfl rfl hns (by kernel_rfl) hQ (by kernel_rfl) (fun _ _ => by kernel_rfl) hs0 ?_
  refine hz_take (i := 15) (oi := _) (v := .pointer (some ⟨r, 0, none⟩)) rfl rfl hns (by kernel_rfl) hQ (by kernel_rfl) (fun _ _ => by kernel_rfl) hs0 ?_
  refine hz_take (i := 16) (oi := _) (v := .pointer (some ⟨r, 0, none⟩)) rfl rfl hns (by kernel_rfl) hQ (by kernel_rfl) (fun _ _ => by kernel_rfl) hs0 ?_
  refine hz_take (i := 17) (oi := _) (v := .pointer (some ⟨r, 0, none⟩)) rfl rfl hns (by kernel_rfl) hQ (by kernel_rfl) (fun _ _ => by kernel_rfl) hs0 ?_
  refine hz_take (i := 18) (oi := _) (v := .slice ra n rc) rfl rfl hns (by kernel_rfl) hQ (by kernel_rfl) (fun W hW => ld_one rfl (by kernel_rfl) (by kernel_rfl) W (rA.next hW 0 _ rfl)) hs0 ?_
  refine hz_take (i := 19) (oi := _) (v := .int .i64 (n : Int)) rfl rfl hns (by kernel_rfl) hQ (by kernel_rfl) (fun _ _ => by kernel_rfl) hs0 ?_
  refine hz_call (i := 14) (oi := _) 19 #[.pointer (some ⟨g, 0, none⟩)] rfl rfl hns (by kernel_rfl) (by kernel_rfl) (by kernel_rfl) (HTL.out _ (hS13.trans hs0)) ?_
  rintro e wx51 ⟨rfl, hb⟩
  have hs1 : Since w13 wx51 := hs0.trans hb
  clear hb
  refine ⟨_, rfl, hs1, ?_⟩
  refine hz_take (i := 20) (oi := _) (v := .bool false) rfl rfl hns (by kernel_rfl) hQ (by kernel_rfl) (fun W _ => neqs_int (s := (n : Int)) rfl (by kernel_rfl) (by kernel_rfl) W) hs1 ?_
  refine hz_take (i := 21) (oi := _) (v := .bool false) rfl rfl hns (by kernel_rfl) hQ (by kernel_rfl) (fun _ _ => by kernel_rfl) hs1 ?_
  refine hz_take (i := 22) (oi := _) (v := .bool false) rfl rfl hns (by kernel_rfl) hQ (by kernel_rfl) (fun _ _ => by kernel_rfl) hs1 ?_
  refine hz_take (i := 23) (oi := _) (v := .pointer (some ⟨g, 0, none⟩)) rfl rfl hns (by kernel_rfl) hQ (by kernel_rfl) (fun _ _ => by kernel_rfl) hs1 ?_
  refine hz_take (i := 25) (oi := _) (v := .pointer (some ⟨r, 0, none⟩)) rfl rfl hns (by kernel_rfl) hQ (by kernel_rfl) (fun _ _ => by kernel_rfl) hs1 ?_
  refine hz_call (i := 24) (oi := _) 20 #[.pointer (some ⟨g, 0, none⟩)] rfl rfl hns (by kernel_rfl) (by kernel_rfl) (by kernel_rfl) (HTN.out _ (hS13.trans hs1)) ?_
  rintro e wx52 ⟨rfl, hb⟩
  have hs2 : Since w13 wx52 := hs1.trans hb
  clear hb
  refine ⟨_, rfl, hs2, ?_⟩
  refine hz_call (i := 26) (oi := _) 21 #[.pointer (some ⟨r, 0, none⟩)] rfl rfl hns (by kernel_rfl) (by kernel_rfl) (by kernel_rfl) (HRN.out _ (hS13.trans hs2)) ?_
  rintro e wx53 ⟨rfl, hb⟩
  have hs3 : Since w13 wx53 := hs2.trans hb
  clear hb
  refine ⟨_, rfl, hs3, ?_⟩
  refine hz_take (i := 27) (oi := _) (v := .bool false) rfl rfl hns (by kernel_rfl) hQ (by kernel_rfl) (fun W _ => neqs_int (s := (m : Int)) rfl (by kernel_rfl) (by kernel_rfl) W) hs3 ?_
  refine hz_take (i := 28) (oi := _) (v := .bool false) rfl rfl hns (by kernel_rfl) hQ (by kernel_rfl) (fun _ _ => by kernel_rfl) hs3 ?_
  refine hz_take (i := 29) (oi := _) (v := .bool false) rfl rfl hns (by kernel_rfl) hQ (by kernel_rfl) (fun _ _ => by kernel_rfl) hs3 ?_
  refine hz_take (i := 30) (oi := _) (v := .pointer (some ⟨g, 0, none⟩)) rfl rfl hns (by kernel_rfl) hQ (by kernel_rfl) (fun _ _ => by kernel_rfl) hs3 ?_
  refine hz_take (i := 31) (oi := _) (v := .pointer (some ⟨gb, 12, none⟩)) rfl rfl hns (by kernel_rfl) hQ (by kernel_rfl) (fun _ _ => by kernel_rfl) hs3 ?_
  refine hz_take (i := 32) (oi := _) (v := .int .i64 id) rfl rfl hns (by kernel_rfl) hQ (by kernel_rfl) (fun W hW => ld_one rfl (by kernel_rfl) (by kernel_rfl) W (gA.next hW 12 _ rfl)) hs3 ?_
  refine hz_take (i := 34) (oi := _) (v := .pointer (some ⟨r, 0, none⟩)) rfl rfl hns (by kernel_rfl) hQ (by kernel_rfl) (fun _ _ => by kernel_rfl) hs3 ?_
  refine hz_take (i := 35) (oi := _) (v := .pointer (some ⟨gb, 12, none⟩)) rfl rfl hns (by kernel_rfl) hQ (by kernel_rfl) (fun _ _ => by kernel_rfl) hs3 ?_
  refine hz_take (i := 36) (oi := _) (v := .int .i64 id) rfl rfl hns (by kernel_rfl) hQ (by kernel_rfl) (fun W hW => ld_one rfl (by kernel_rfl) (by kernel_rfl) W (gA.next hW 12 _ rfl)) hs3 ?_
  refine hz_call (i := 33) (oi := _) 23 #[.pointer (some ⟨g, 0, none⟩), .int .i64 id] rfl rfl hns (by kernel_rfl) (by kernel_rfl) (by kernel_rfl) (HTW.out _ (hS13.trans hs3)) ?_
  rintro e wx54 ⟨v1, rfl, i1, hb⟩
  have hs4 : Since w13 wx54 := hs3.trans hb
  clear hb
  refine ⟨_, rfl, hs4, ?_⟩
  refine hz_call (i := 37) (oi := _) 24 #[.pointer (some ⟨r, 0, none⟩), .int .i64 id] rfl rfl hns (by kernel_rfl) (by kernel_rfl) (by kernel_rfl) (HRW.out _ (hS13.trans hs4)) ?_
  rintro e wx55 ⟨v2, rfl, i2, hb⟩
  have hs5 : Since w13 wx55 := hs4.trans hb
  replace i1 := inext i1 hb
  clear hb
  refine ⟨_, rfl, hs5, ?_⟩
  refine hz_call (i := 38) (oi := _) 22 #[v1, v2] rfl rfl hns (by kernel_rfl) (by kernel_rfl) (by kernel_rfl) (HSW.out _ _ _ i1 i2) ?_
  rintro e wx56 ⟨rfl, hb⟩
  have hs6 : Since w13 wx56 := hs5.trans hb
  clear hb
  refine ⟨_, rfl, hs6, ?_⟩
  refine hz_take (i := 39) (oi := _) (v := .bool false) rfl rfl hns (by kernel_rfl) hQ (by kernel_rfl) (fun _ _ => by kernel_rfl) hs6 ?_
  refine hz_take (i := 40) (oi := _) (v := .bool false) rfl rfl hns (by kernel_rfl) hQ (by kernel_rfl) (fun _ _ => by kernel_rfl) hs6 ?_
  refine hz_take (i := 41) (oi := _) (v := .bool false) rfl rfl hns (by kernel_rfl) hQ (by kernel_rfl) (fun _ _ => by kernel_rfl) hs6 ?_
  refine hz_take (i := 42) (oi := _) (v := .pointer (some ⟨g, 0, none⟩)) rfl rfl hns (by kernel_rfl) hQ (by kernel_rfl) (fun _ _ => by kernel_rfl) hs6 ?_
  refine hz_take (i := 43) (oi := _) (v := .pointer (some ⟨gb, 12, none⟩)) rfl rfl hns (by kernel_rfl) hQ (by kernel_rfl) (fun _ _ => by kernel_rfl) hs6 ?_
  refine hz_take (i := 44) (oi := _) (v := .int .i64 id) rfl rfl hns (by kernel_rfl) hQ (by kernel_rfl) (fun W hW => ld_one rfl (by kernel_rfl) (by kernel_rfl) W (gA.next hW 12 _ rfl)) hs6 ?_
  refine hz_take (i := 46) (oi := _) (v := .pointer (some ⟨r, 0, none⟩)) rfl rfl hns (by kernel_rfl) hQ (by kernel_rfl) (fun _ _ => by kernel_rfl) hs6 ?_
  refine hz_take (i := 47) (oi := _) (v := .pointer (some ⟨gb, 12, none⟩)) rfl rfl hns (by kernel_rfl) hQ (by kernel_rfl) (fun _ _ => by kernel_rfl) hs6 ?_
  refine hz_take (i := 48) (oi := _) (v := .int .i64 id) rfl rfl hns (by kernel_rfl) hQ (by kernel_rfl) (fun W hW => ld_one rfl (by kernel_rfl) (by kernel_rfl) W (gA.next hW 12 _ rfl)) hs6 ?_
  refine hz_call (i := 45) (oi := _) 26 #[.pointer (some ⟨g, 0, none⟩), .int .i64 id] rfl rfl hns (by kernel_rfl) (by kernel_rfl) (by kernel_rfl) (HTA.out _ (hS13.trans hs6)) ?_
  rintro e wx57 ⟨v3, rfl, i3, hb⟩
  have hs7 : Since w13 wx57 := hs6.trans hb
  clear hb
  refine ⟨_, rfl, hs7, ?_⟩
  refine hz_call (i := 49) (oi := _) 27 #[.pointer (some ⟨r, 0, none⟩), .int .i64 id] rfl rfl hns (by kernel_rfl) (by kernel_rfl) (by kernel_rfl) (HRA.out _ (hS13.trans hs7)) ?_
  rintro e wx58 ⟨v4, rfl, i4, hb⟩
  have hs8 : Since w13 wx58 := hs7.trans hb
  replace i3 := anext i3 hb
  clear hb
  refine ⟨_, rfl, hs8, ?_⟩
  refine hz_call (i := 50) (oi := _) 25 #[v3, v4] rfl rfl hns (by kernel_rfl) (by kernel_rfl) (by kernel_rfl) (HSA.out _ _ _ i3 i4) ?_
  rintro e wx59 ⟨rfl, hb⟩
  have hs9 : Since w13 wx59 := hs8.trans hb
  clear hb
  refine ⟨_, rfl, hs9, ?_⟩
  refine hz_take (i := 51) (oi := _) (v := .bool false) rfl rfl hns (by kernel_rfl) hQ (by kernel_rfl) (fun _ _ => by kernel_rfl) hs9 ?_
  refine hz_take (i := 52) (oi := _) (v := .bool false) rfl rfl hns (by kernel_rfl) hQ (by kernel_rfl) (fun _ _ => by kernel_rfl) hs9 ?_
  refine hz_end [c0, c1, c2, .pointer (some ⟨g, 0, none⟩), .pointer (some ⟨r, 0, none⟩), c5, .pointer (some ⟨gb, 0, none⟩), .bool true, c8, c9, c10, c11, c12, c13, c14, c15, c16, c17, c18, c19, c20, c21, .pointer (some ⟨g1, 0, none⟩), .bool cf, .pointer (some ⟨g2, 0, none⟩), .bool cf, c26, c27, c28, c29, c30, c31, c32, c33, c34, c35, c36, c37, c38, c39, c40, c41, c42, c43, c44, c45, c46, c47, c48, c49, c50, c51, c52, c53, c54, c55, c56, c57, c58, c59, c60, c61, c62, c63, c64, c65, c66, c67, c68, c69, c70, c71, c72, c73, c74, c75, c76, c77, c78, c79, c80, c81, c82, c83, c84, c85, c86, c87, c88, c89, c90, c91, c92, c93, c94, c95, c96, c97, c98, c99, c100, c101, c102, c103, c104, c105, c106, c107, c108, c109, c110, c111, c112, c113, c114, c115, c116, c117, c118, c119, c120, c121, c122, c123, c124, c125, c126, c127, c128, c129, c130, c131, c132, c133, c134, c135, c136, c137, c138, c139, c140, c141, c142, c143, c144, c145, c146, c147, c148, c149, c150, c151, c152, c153, c154, c155, .bool true, .bool false, .bool false, .agg #[.string ⟨c_s.toArray⟩, .string ⟨c_p.toArray⟩, .int .i64 c_n, .bool c_v0, .string ⟨c_l0.toArray⟩, .bool c_v1, .string ⟨c_l1.toArray⟩, .bool c_v2, .string ⟨c_l2.toArray⟩, .bool c_v3, .string ⟨c_l3.toArray⟩], .agg #[.string ⟨c_s.toArray⟩, .string ⟨c_p.toArray⟩, .int .i64 c_n, .bool c_v0, .string ⟨c_l0.toArray⟩, .bool c_v1, .string ⟨c_l1.toArray⟩, .bool c_v2, .string ⟨c_l2.toArray⟩, .bool c_v3, .string ⟨c_l3.toArray⟩], .bool false, .bool false, .bool false, .bool cf, .bool cf, .bool false, .bool false, .bool false, .pointer (some ⟨g, 0, none⟩), .int .i64 (n : Int), .pointer (some ⟨r, 0, none⟩), .pointer (some ⟨r, 0, none⟩), .pointer (some ⟨r, 0, none⟩), .slice ra n rc, .int .i64 (n : Int), .bool false, .bool false, .bool false, .pointer (some ⟨g, 0, none⟩), .int .i64 (m : Int), .pointer (some ⟨r, 0, none⟩), .int .i64 (m : Int), .bool false, .bool false, .bool false, .pointer (some ⟨g, 0, none⟩), .pointer (some ⟨gb, 12, none⟩), .int .i64 id, v1, .pointer (some ⟨r, 0, none⟩), .pointer (some ⟨gb, 12, none⟩), .int .i64 id, v2, .bool true, .bool false, .bool false, .bool false, .pointer (some ⟨g, 0, none⟩), .pointer (some ⟨gb, 12, none⟩), .int .i64 id, v3, .pointer (some ⟨r, 0, none⟩), .pointer (some ⟨gb, 12, none⟩), .int .i64 id, v4, .bool true, .bool false, .bool false] hns (by kernel_rfl) (by kernel_rfl) ?_
  exact hex.out v1 v2 v3 v4 _ hs9
set_option maxHeartbeats 0 in
set_option maxRecDepth 100000 in
theorem script_any (va : Option Addr) (lc : Nat) (L : List Act18) (w : World) (hv : ActRow w (.slice va L.length lc) L) (hF : ∀ y ∈ L, FitsAct y) (hE : Env w) :
    Calls Tryz.prog 3 #[.slice va L.length lc] w fun e w' => e = .returned (.bool true) ∧ Since w w' := by
  have HE := Lib.hid hE
  have HV := Lib.hid hv
  have HF := Lib.hid hF
  obtain ⟨LA, hLA⟩ : ∃ B, Hid (B = lightActs L) := ⟨_, rfl⟩
  have H1 := Lib.hid (fun W (h : Since w W) => light18_any _ L W (actnext HV.out h))
  rw [← hLA.out] at H1
  clear hE hv hF
  go_enter Tryz.func3, Tryz.ntmps3
  go_wp2_with fail
  refine (lives18_any _ HE.out).mono ?_
  rintro e w2 ⟨rfl, hb2⟩
  cases LA
  · go_wp2_with fail
    refine (H1.out _ hb2).mono ?_
    rintro e w3 ⟨rfl, hb3⟩
    go_wp2_with fail
    go_ret
    exact ⟨rfl, hb2.trans hb3⟩
  have hlen : Hid (L.length ≤ 60) := by
    show _ ≤ _
    have h := hLA.out
    unfold lightActs at h
    split at h
    · cases h
    · omega
  go_wp2_with fail
  refine (H1.out _ hb2).mono ?_
  rintro e w3 ⟨rfl, hb3⟩
  have hS3 := hb2.trans hb3
  clear H1 hLA hb2 hb3
  go_wp2_with fail
  refine (tnew_t _).mono ?_
  rintro e w4 ⟨g, rfl, ⟨Z0, hT0⟩, hb4⟩
  obtain ⟨B, hB0⟩ : ∃ B, Hid (w3.heap.size = B) := ⟨_, rfl⟩
  have HB : Hid (w.heap.size ≤ B) := by show _ ≤ _; rw [← hB0.out]; exact hS3.size
  rw [hB0.out] at hT0
  have hS4 := hS3.trans hb4
  clear hb4 hB0 hS3
  go_wp2_with fail
  refine (rnew18 _).mono ?_
  rintro e w5 ⟨r, rfl, ⟨Y0, hR0⟩, hb5⟩
  obtain ⟨D, hD0⟩ : ∃ D, Hid (w4.heap.size = D) := ⟨_, rfl⟩
  have HD : Hid (w.heap.size ≤ D) := by show _ ≤ _; rw [← hD0.out]; exact hS4.size
  rw [hD0.out] at hR0
  have hX0 : SSt w w5 B g D r 0 := ⟨[], Z0, Y0, hS4.trans hb5, hT0.next hb5, hR0, fun b h1 h2 => by have k1 := (hT0.low b h1).2; have k2 := (hR0.low b h2).1; rw [hD0.out] at k1; omega, OkS.nil⟩
  clear hb5 hD0 hS4 hT0 hR0
  go_wp2_with fail
  go_loopw [5] (fun i wr => ∃ k : Nat, k ≤ L.length ∧ i = .int .i64 (k : Int) ∧ SSt w wr B g D r k) (fun i _ => L.length - (intOf i).toNat)
  case atStart => exact ⟨0, Nat.zero_le _, rfl, hX0⟩
  case round =>
  rename World => wo
  clear hX0
  obtain ⟨k, hk, rfl, hX⟩ := hrel
  by_cases hlt : k < L.length
  · have hlt2 : (k : Int) < (L.length : Int) := by omega
    have hlt0 : (0 : Int) ≤ (k : Int) := by omega
    obtain ⟨S, Z, Y, hS, hT, hR, hZY, hok⟩ := hX
    have hk60 : Hid (k ≤ 59) := by show _ ≤ _; have := hlen.out; omega
    obtain ⟨b, ob, rfl, hc, hat⟩ := HV.out.get (by omega)
    have HFX := Lib.hid (HF.out _ (List.getElem_mem hlt))
    have d1 := (hat k hlt).next hS
    obtain ⟨⟨kd, ⟨a_s, a_p, a_n, ⟨a_v0, a_l0⟩, ⟨a_v1, a_l1⟩, ⟨a_v2, a_l2⟩, ⟨a_v3, a_l3⟩⟩, id, who⟩, hx⟩ : ∃ x, Hid (x = L[k]) := ⟨L[k], rfl⟩
    rw [← hx.out] at d1 HFX
    have dA := d1.2.1
    have y0 : wo.cell? ⟨b, ob + k * 14, none⟩ = some (.int .i64 kd) := d1.1
    have y1 : wo.cell? ⟨b, ob + k * 14 + 1, none⟩ = some (.string ⟨a_s.toArray⟩) := dA 0 _ rfl
    have y2 : wo.cell? ⟨b, ob + k * 14 + 2, none⟩ = some (.string ⟨a_p.toArray⟩) := dA 1 _ rfl
    have y3 : wo.cell? ⟨b, ob + k * 14 + 3, none⟩ = some (.int .i64 a_n) := dA 2 _ rfl
    have y4 : wo.cell? ⟨b, ob + k * 14 + 4, none⟩ = some (.bool a_v0) := dA 3 _ rfl
    have y5 : wo.cell? ⟨b, ob + k * 14 + 5, none⟩ = some (.string ⟨a_l0.toArray⟩) := dA 4 _ rfl
    have y6 : wo.cell? ⟨b, ob + k * 14 + 6, none⟩ = some (.bool a_v1) := dA 5 _ rfl
    have y7 : wo.cell? ⟨b, ob + k * 14 + 7, none⟩ = some (.string ⟨a_l1.toArray⟩) := dA 6 _ rfl
    have y8 : wo.cell? ⟨b, ob + k * 14 + 8, none⟩ = some (.bool a_v2) := dA 7 _ rfl
    have y9 : wo.cell? ⟨b, ob + k * 14 + 9, none⟩ = some (.string ⟨a_l2.toArray⟩) := dA 8 _ rfl
    have y10 : wo.cell? ⟨b, ob + k * 14 + 10, none⟩ = some (.bool a_v3) := dA 9 _ rfl
    have y11 : wo.cell? ⟨b, ob + k * 14 + 11, none⟩ = some (.string ⟨a_l3.toArray⟩) := dA 10 _ rfl
    have y12 : wo.cell? ⟨b, ob + k * 14 + 12, none⟩ = some (.int .i64 id) := d1.2.2.1
    have y13 : wo.cell? ⟨b, ob + k * 14 + 13, none⟩ = some (.int .i64 who) := d1.2.2.2
    have HOK := Lib.hid hok
    clear hat d1 dA hx hok
    go_upto_region 10 with (fail)
    have hA : Cel (wo.alloc (.cells #[.int .i64 kd, .string ⟨a_s.toArray⟩, .string ⟨a_p.toArray⟩, .int .i64 a_n, .bool a_v0, .string ⟨a_l0.toArray⟩, .bool a_v1, .string ⟨a_l1.toArray⟩, .bool a_v2, .string ⟨a_l2.toArray⟩, .bool a_v3, .string ⟨a_l3.toArray⟩, .int .i64 id, .int .i64 who] 35)) wo.heap.size #[.int .i64 kd, .string ⟨a_s.toArray⟩, .string ⟨a_p.toArray⟩, .int .i64 a_n, .bool a_v0, .string ⟨a_l0.toArray⟩, .bool a_v1, .string ⟨a_l1.toArray⟩, .bool a_v2, .string ⟨a_l2.toArray⟩, .bool a_v3, .string ⟨a_l3.toArray⟩, .int .i64 id, .int .i64 who] 35 := heap_alloc_new wo _
    have hSa : Since wo (wo.alloc (.cells #[.int .i64 kd, .string ⟨a_s.toArray⟩, .string ⟨a_p.toArray⟩, .int .i64 a_n, .bool a_v0, .string ⟨a_l0.toArray⟩, .bool a_v1, .string ⟨a_l1.toArray⟩, .bool a_v2, .string ⟨a_l2.toArray⟩, .bool a_v3, .string ⟨a_l3.toArray⟩, .int .i64 id, .int .i64 who] 35)) := (Since.refl wo).alloc _
    have hgZ : ¬ Z wo.heap.size := fun h => by have := (hT.low _ h).2; omega
    have hgY : ¬ Y wo.heap.size := fun h => by have := (hR.low _ h).2; omega
    replace hT := hT.next hSa
    replace hR := hR.next hSa
    replace hS := hS.trans hSa
    clear hSa y0 y1 y2 y3 y4 y5 y6 y7 y8 y9 y10 y11 y12 y13
    generalize wo.alloc (.cells #[.int .i64 kd, .string ⟨a_s.toArray⟩, .string ⟨a_p.toArray⟩, .int .i64 a_n, .bool a_v0, .string ⟨a_l0.toArray⟩, .bool a_v1, .string ⟨a_l1.toArray⟩, .bool a_v2, .string ⟨a_l2.toArray⟩, .bool a_v3, .string ⟨a_l3.toArray⟩, .int .i64 id, .int .i64 who] 35) = wa at *
    generalize wo.heap.size = gb at *
    have x0 : wa.cell? ⟨gb, 0, none⟩ = some (.int .i64 kd) := hA.cell 0
    have x1 : wa.cell? ⟨gb, 1, none⟩ = some (.string ⟨a_s.toArray⟩) := hA.cell 1
    have x2 : wa.cell? ⟨gb, 2, none⟩ = some (.string ⟨a_p.toArray⟩) := hA.cell 2
    have x3 : wa.cell? ⟨gb, 3, none⟩ = some (.int .i64 a_n) := hA.cell 3
    have x4 : wa.cell? ⟨gb, 4, none⟩ = some (.bool a_v0) := hA.cell 4
    have x5 : wa.cell? ⟨gb, 5, none⟩ = some (.string ⟨a_l0.toArray⟩) := hA.cell 5
    have x6 : wa.cell? ⟨gb, 6, none⟩ = some (.bool a_v1) := hA.cell 6
    have x7 : wa.cell? ⟨gb, 7, none⟩ = some (.string ⟨a_l1.toArray⟩) := hA.cell 7
    have x8 : wa.cell? ⟨gb, 8, none⟩ = some (.bool a_v2) := hA.cell 8
    have x9 : wa.cell? ⟨gb, 9, none⟩ = some (.string ⟨a_l2.toArray⟩) := hA.cell 9
    have x10 : wa.cell? ⟨gb, 10, none⟩ = some (.bool a_v3) := hA.cell 10
    have x11 : wa.cell? ⟨gb, 11, none⟩ = some (.string ⟨a_l3.toArray⟩) := hA.cell 11
    have x12 : wa.cell? ⟨gb, 12, none⟩ = some (.int .i64 id) := hA.cell 12
    have x13 : wa.cell? ⟨gb, 13, none⟩ = some (.int .i64 who) := hA.cell 13
    have HPK := Lib.hid (pick_any kd 4 wa HFX.out.1.1 HFX.out.1.2 (by omega) (by omega))
    obtain ⟨pk, hpk⟩ : ∃ pk, Hid (kd % 4 = pk) := ⟨_, rfl⟩
    have hp4 : pk = 0 ∨ pk = 1 ∨ pk = 2 ∨ pk = 3 := by have := hpk.out; omega
    rw [hpk.out] at HPK
    clear hpk
    go_wp2_with fail
    refine HPK.out.mono ?_
    rintro e w6 ⟨rfl, rfl⟩
    clear HPK
    go_upto_block 2 with fail
    go_cut [7, 8, 9, 10, 11, 12, 13, 14, 15, 16, 17, 18, 19, 20, 21] from 33 to 208 (fun s7 s8 s9 s10 s11 s12 s13 s14 s15 s16 s17 s18 s19 s20 s21 W => s7 = .bool true ∧ SSa w W B g D r (k + 1) gb #[.int .i64 kd, .string ⟨a_s.toArray⟩, .string ⟨a_p.toArray⟩, .int .i64 a_n, .bool a_v0, .string ⟨a_l0.toArray⟩, .bool a_v1, .string ⟨a_l1.toArray⟩, .bool a_v2, .string ⟨a_l2.toArray⟩, .bool a_v3, .string ⟨a_l3.toArray⟩, .int .i64 id, .int .i64 who])
    case first =>
      rcases hp4 with rfl | rfl | rfl | rfl
      · obtain ⟨⟨q1, q2, q3, S'⟩, hq⟩ : ∃ q, Hid (openU S ((a_s, a_p, a_n, (a_v0, a_l0), (a_v1, a_l1), (a_v2, a_l2), (a_v3, a_l3)) : Atm) = q) := ⟨_, rfl⟩
        have HT := Lib.hid (fun W (h : Tab W B g Z S) (hS : Since w W) => topen_u a_s a_p a_n a_v0 a_v1 a_v2 a_v3 a_l0 a_l1 a_l2 a_l3 W h HFX.out.2.1 (HE.out.next hS) HOK.out (by have := hk60.out; omega) hq.out)
        have HR := Lib.hid (fun W (h : Rtb W D r Y S) => ropen_u a_s a_p a_n a_v0 a_v1 a_v2 a_v3 a_l0 a_l1 a_l2 a_l3 W h HFX.out.2.1 HOK.out (by have := hk60.out; omega) hq.out)
        replace HOK : Hid (OkS (k + 1) S') := by have h := HOK.out.open ((a_s, a_p, a_n, (a_v0, a_l0), (a_v1, a_l1), (a_v2, a_l2), (a_v3, a_l3)) : Atm); rw [hq.out] at h; exact h
        clear hq
        go_wp2_with fail
        refine (HT.out _ hT hS).mono ?_
        rintro e w7 ⟨rfl, hop⟩
        obtain ⟨Z', hT7, hk7, hz7⟩ := hop.split
        have hS7 := hT.since hk7 hS HB.out
        have hR7 := hR.keep hk7 (fun b h1 h2 => hZY b h2 h1)
        have hA7 := hk7.cel hA hgZ
        have hgZ7 := hz7 gb hA.lt hgZ
        have hZY7 : ∀ b, Z' b → ¬ Y b := fun b h1 h2 => hz7 b (hR.low b h2).2 (fun h3 => hZY b h3 h2) h1
        clear hop hz7 hk7 hT hS hR hA hgZ hZY x0 x1 x2 x3 x4 x5 x6 x7 x8 x9 x10 x11 x12 x13
        have x0 : w7.cell? ⟨gb, 0, none⟩ = some (.int .i64 kd) := hA7.cell 0
        have x1 : w7.cell? ⟨gb, 1, none⟩ = some (.string ⟨a_s.toArray⟩) := hA7.cell 1
        have x2 : w7.cell? ⟨gb, 2, none⟩ = some (.string ⟨a_p.toArray⟩) := hA7.cell 2
        have x3 : w7.cell? ⟨gb, 3, none⟩ = some (.int .i64 a_n) := hA7.cell 3
        have x4 : w7.cell? ⟨gb, 4, none⟩ = some (.bool a_v0) := hA7.cell 4
        have x5 : w7.cell? ⟨gb, 5, none⟩ = some (.string ⟨a_l0.toArray⟩) := hA7.cell 5
        have x6 : w7.cell? ⟨gb, 6, none⟩ = some (.bool a_v1) := hA7.cell 6
        have x7 : w7.cell? ⟨gb, 7, none⟩ = some (.string ⟨a_l1.toArray⟩) := hA7.cell 7
        have x8 : w7.cell? ⟨gb, 8, none⟩ = some (.bool a_v2) := hA7.cell 8
        have x9 : w7.cell? ⟨gb, 9, none⟩ = some (.string ⟨a_l2.toArray⟩) := hA7.cell 9
        have x10 : w7.cell? ⟨gb, 10, none⟩ = some (.bool a_v3) := hA7.cell 10
        have x11 : w7.cell? ⟨gb, 11, none⟩ = some (.string ⟨a_l3.toArray⟩) := hA7.cell 11
        have x12 : w7.cell? ⟨gb, 12, none⟩ = some (.int .i64 id) := hA7.cell 12
        have x13 : w7.cell? ⟨gb, 13, none⟩ = some (.int .i64 who) := hA7.cell 13
        go_wp2_with fail
        refine (HR.out _ hR7).mono ?_
        rintro e w8 ⟨rfl, hop⟩
        obtain ⟨Y', hR8, hk8, hz8⟩ := hop.split
        have hS8 := hR7.since hk8 hS7 HD.out
        have hT8 := hT7.keepT hk8 hZY7
        have hA8 := hk8.cel hA7 hgY
        have hgY8 := hz8 gb hA7.lt hgY
        have hZY8 : ∀ b, Z' b → ¬ Y' b := fun b h1 h2 => hz8 b (hT7.low b h1).2 (fun h3 => hZY7 b h1 h3) h2
        clear hop hz8 hk8 hT7 hS7 hR7 hA7 hgY hZY7 x0 x1 x2 x3 x4 x5 x6 x7 x8 x9 x10 x11 x12 x13
        go_wp2_with fail
        go_meet
        case rel => exact ⟨rfl, _, _, _, hS8, hT8, hR8, hZY8, HOK.out, hA8, hgZ7, hgY8⟩
      · obtain ⟨⟨q1, q2, S'⟩, hq⟩ : ∃ q, Hid (addU S id ((a_s, a_p, a_n, (a_v0, a_l0), (a_v1, a_l1), (a_v2, a_l2), (a_v3, a_l3)) : Atm) = q) := ⟨_, rfl⟩
        have HT := Lib.hid (fun W (h : Tab W B g Z S) (hS : Since w W) => tadd_u id a_s a_p a_n a_v0 a_v1 a_v2 a_v3 a_l0 a_l1 a_l2 a_l3 W h HFX.out.2.1 (HE.out.next hS) HOK.out (by have := hk60.out; omega) hq.out)
        have HR := Lib.hid (fun W (h : Rtb W D r Y S) => radd_u id a_s a_p a_n a_v0 a_v1 a_v2 a_v3 a_l0 a_l1 a_l2 a_l3 W h HFX.out.2.1 HOK.out (by have := hk60.out; omega) hq.out)
        replace HOK : Hid (OkS (k + 1) S') := by have h := HOK.out.add id ((a_s, a_p, a_n, (a_v0, a_l0), (a_v1, a_l1), (a_v2, a_l2), (a_v3, a_l3)) : Atm); rw [hq.out] at h; exact h
        clear hq
        go_wp2_with fail
        refine (HT.out _ hT hS).mono ?_
        rintro e w7 ⟨rfl, hop⟩
        obtain ⟨Z', hT7, hk7, hz7⟩ := hop.split
        have hS7 := hT.since hk7 hS HB.out
        have hR7 := hR.keep hk7 (fun b h1 h2 => hZY b h2 h1)
        have hA7 := hk7.cel hA hgZ
        have hgZ7 := hz7 gb hA.lt hgZ
        have hZY7 : ∀ b, Z' b → ¬ Y b := fun b h1 h2 => hz7 b (hR.low b h2).2 (fun h3 => hZY b h3 h2) h1
        clear hop hz7 hk7 hT hS hR hA hgZ hZY x0 x1 x2 x3 x4 x5 x6 x7 x8 x9 x10 x11 x12 x13
        have x0 : w7.cell? ⟨gb, 0, none⟩ = some (.int .i64 kd) := hA7.cell 0
        have x1 : w7.cell? ⟨gb, 1, none⟩ = some (.string ⟨a_s.toArray⟩) := hA7.cell 1
        have x2 : w7.cell? ⟨gb, 2, none⟩ = some (.string ⟨a_p.toArray⟩) := hA7.cell 2
        have x3 : w7.cell? ⟨gb, 3, none⟩ = some (.int .i64 a_n) := hA7.cell 3
        have x4 : w7.cell? ⟨gb, 4, none⟩ = some (.bool a_v0) := hA7.cell 4
        have x5 : w7.cell? ⟨gb, 5, none⟩ = some (.string ⟨a_l0.toArray⟩) := hA7.cell 5
        have x6 : w7.cell? ⟨gb, 6, none⟩ = some (.bool a_v1) := hA7.cell 6
        have x7 : w7.cell? ⟨gb, 7, none⟩ = some (.string ⟨a_l1.toArray⟩) := hA7.cell 7
        have x8 : w7.cell? ⟨gb, 8, none⟩ = some (.bool a_v2) := hA7.cell 8
        have x9 : w7.cell? ⟨gb, 9, none⟩ = some (.string ⟨a_l2.toArray⟩) := hA7.cell 9
        have x10 : w7.cell? ⟨gb, 10, none⟩ = some (.bool a_v3) := hA7.cell 10
        have x11 : w7.cell? ⟨gb, 11, none⟩ = some (.string ⟨a_l3.toArray⟩) := hA7.cell 11
        have x12 : w7.cell? ⟨gb, 12, none⟩ = some (.int .i64 id) := hA7.cell 12
        have x13 : w7.cell? ⟨gb, 13, none⟩ = some (.int .i64 who) := hA7.cell 13
        go_wp2_with fail
        refine (HR.out _ hR7).mono ?_
        rintro e w8 ⟨rfl, hop⟩
        obtain ⟨Y', hR8, hk8, hz8⟩ := hop.split
        have hS8 := hR7.since hk8 hS7 HD.out
        have hT8 := hT7.keepT hk8 hZY7
        have hA8 := hk8.cel hA7 hgY
        have hgY8 := hz8 gb hA7.lt hgY
        have hZY8 : ∀ b, Z' b → ¬ Y' b := fun b h1 h2 => hz8 b (hT7.low b h1).2 (fun h3 => hZY7 b h1 h3) h2
        clear hop hz8 hk8 hT7 hS7 hR7 hA7 hgY hZY7 x0 x1 x2 x3 x4 x5 x6 x7 x8 x9 x10 x11 x12 x13
        go_wp2_with fail
        go_meet
        case rel => exact ⟨rfl, _, _, _, hS8, hT8, hR8, hZY8, HOK.out, hA8, hgZ7, hgY8⟩
      · obtain ⟨⟨q1, S'⟩, hq⟩ : ∃ q, Hid (waitU S id who = q) := ⟨_, rfl⟩
        have HT := Lib.hid (fun W (h : Tab W B g Z S) (hS : Since w W) => twait_u id who W h HOK.out (by have := hk60.out; omega) hq.out)
        have HR := Lib.hid (fun W (h : Rtb W D r Y S) => rwait_u id who W h HOK.out (by have := hk60.out; omega) hq.out)
        replace HOK : Hid (OkS (k + 1) S') := by have h := HOK.out.wait id who; rw [hq.out] at h; exact h
        clear hq x0 x1 x2 x3 x4 x5 x6 x7 x8 x9 x10 x11 x12 x13
        go_upto_region 24 with (fail)
        have hSd : Since wa wa.drew := (Since.refl wa).drew
        replace hS := hS.trans hSd
        have aA : At wa gb 0 #[.int .i64 kd, .string ⟨a_s.toArray⟩, .string ⟨a_p.toArray⟩, .int .i64 a_n, .bool a_v0, .string ⟨a_l0.toArray⟩, .bool a_v1, .string ⟨a_l1.toArray⟩, .bool a_v2, .string ⟨a_l2.toArray⟩, .bool a_v3, .string ⟨a_l3.toArray⟩, .int .i64 id, .int .i64 who] := hA.at
        replace aA := aA.next ((Since.refl wa).drew)
        replace hT := hT.next ((Since.refl wa).drew)
        replace hR := hR.next ((Since.refl wa).drew)
        replace hA := hA.next ((Since.refl wa).drew)
        refine hx_begin (S := fun W => (At W gb 0 #[.int .i64 kd, .string ⟨a_s.toArray⟩, .string ⟨a_p.toArray⟩, .int .i64 a_n, .bool a_v0, .string ⟨a_l0.toArray⟩, .bool a_v1, .string ⟨a_l1.toArray⟩, .bool a_v2, .string ⟨a_l2.toArray⟩, .bool a_v3, .string ⟨a_l3.toArray⟩, .int .i64 id, .int .i64 who])) (by kernel_rfl) aA (by kernel_rfl) (fun _ _ _ _ _ h => h) (fun hns hQ => ?_)
        refine hx_take (i := 0) (oi := _) (v := .pointer (some ⟨g, 0, none⟩)) rfl rfl hns (by kernel_rfl) (by kernel_rfl) hQ (by kernel_rfl) (fun _ _ => by kernel_rfl) aA ?_
        refine hx_take (i := 1) (oi := _) (v := .pointer (some ⟨gb, 12, none⟩)) rfl rfl hns (by kernel_rfl) (by kernel_rfl) hQ (by kernel_rfl) (fun _ _ => by kernel_rfl) aA ?_
        refine hx_take (i := 2) (oi := _) (v := .int .i64 id) rfl rfl hns (by kernel_rfl) (by kernel_rfl) hQ (by kernel_rfl) (fun W hW => ld_one rfl (by kernel_rfl) (by kernel_rfl) W (hW 12 _ rfl)) aA ?_
        refine hx_take (i := 3) (oi := _) (v := .pointer (some ⟨gb, 13, none⟩)) rfl rfl hns (by kernel_rfl) (by kernel_rfl) hQ (by kernel_rfl) (fun _ _ => by kernel_rfl) aA ?_
        refine hx_take (i := 4) (oi := _) (v := .int .i64 who) rfl rfl hns (by kernel_rfl) (by kernel_rfl) hQ (by kernel_rfl) (fun W hW => ld_one rfl (by kernel_rfl) (by kernel_rfl) W (hW 13 _ rfl)) aA ?_
        refine hx_take (i := 6) (oi := _) (v := .pointer (some ⟨r, 0, none⟩)) rfl rfl hns (by kernel_rfl) (by kernel_rfl) hQ (by kernel_rfl) (fun _ _ => by kernel_rfl) aA ?_
        refine hx_take (i := 7) (oi := _) (v := .pointer (some ⟨gb, 12, none⟩)) rfl rfl hns (by kernel_rfl) (by kernel_rfl) hQ (by kernel_rfl) (fun _ _ => by kernel_rfl) aA ?_
        refine hx_take (i := 8) (oi := _) (v := .int .i64 id) rfl rfl hns (by kernel_rfl) (by kernel_rfl) hQ (by kernel_rfl) (fun W hW => ld_one rfl (by kernel_rfl) (by kernel_rfl) W (hW 12 _ rfl)) aA ?_
        refine hx_take (i := 9) (oi := _) (v := .pointer (some ⟨gb, 13, none⟩)) rfl rfl hns (by kernel_rfl) (by kernel_rfl) hQ (by kernel_rfl) (fun _ _ => by kernel_rfl) aA ?_
        refine hx_take (i := 10) (oi := _) (v := .int .i64 who) rfl rfl hns (by kernel_rfl) (by kernel_rfl) hQ (by kernel_rfl) (fun W hW => ld_one rfl (by kernel_rfl) (by kernel_rfl) W (hW 13 _ rfl)) aA ?_
        refine hx_call (i := 5) (oi := _) 13 #[.pointer (some ⟨g, 0, none⟩), .int .i64 id, .int .i64 who] rfl rfl (by kernel_rfl) (by kernel_rfl) (by kernel_rfl) (HT.out _ hT hS) ?_
        rintro e w7 ⟨rfl, hop⟩
        obtain ⟨Z', hT7, hk7, hz7⟩ := hop.split
        have hS7 := hT.since hk7 hS HB.out
        have hR7 := hR.keep hk7 (fun b h1 h2 => hZY b h2 h1)
        have hA7 := hk7.cel hA hgZ
        have hgZ7 := hz7 gb hA.lt hgZ
        have hZY7 : ∀ b, Z' b → ¬ Y b := fun b h1 h2 => hz7 b (hR.low b h2).2 (fun h3 => hZY b h3 h2) h1
        clear hop hz7 hk7 hT hS hR hA hgZ hZY
        replace aA : At w7 gb 0 #[.int .i64 kd, .string ⟨a_s.toArray⟩, .string ⟨a_p.toArray⟩, .int .i64 a_n, .bool a_v0, .string ⟨a_l0.toArray⟩, .bool a_v1, .string ⟨a_l1.toArray⟩, .bool a_v2, .string ⟨a_l2.toArray⟩, .bool a_v3, .string ⟨a_l3.toArray⟩, .int .i64 id, .int .i64 who] := hA7.at
        refine ⟨_, rfl, aA, ?_⟩
        refine hx_call (i := 11) (oi := _) 14 #[.pointer (some ⟨r, 0, none⟩), .int .i64 id, .int .i64 who] rfl rfl (by kernel_rfl) (by kernel_rfl) (by kernel_rfl) (HR.out _ hR7) ?_
        rintro e w8 ⟨rfl, hop⟩
        obtain ⟨Y', hR8, hk8, hz8⟩ := hop.split
        have hS8 := hR7.since hk8 hS7 HD.out
        have hT8 := hT7.keepT hk8 hZY7
        have hA8 := hk8.cel hA7 hgY
        have hgY8 := hz8 gb hA7.lt hgY
        have hZY8 : ∀ b, Z' b → ¬ Y' b := fun b h1 h2 => hz8 b (hT7.low b h1).2 (fun h3 => hZY7 b h1 h3) h2
        clear hop hz8 hk8 hT7 hS7 hR7 hA7 hgY hZY7
        replace aA : At w8 gb 0 #[.int .i64 kd, .string ⟨a_s.toArray⟩, .string ⟨a_p.toArray⟩, .int .i64 a_n, .bool a_v0, .string ⟨a_l0.toArray⟩, .bool a_v1, .string ⟨a_l1.toArray⟩, .bool a_v2, .string ⟨a_l2.toArray⟩, .bool a_v3, .string ⟨a_l3.toArray⟩, .int .i64 id, .int .i64 who] := hA8.at
        refine ⟨_, rfl, aA, ?_⟩
        refine hx_take (i := 12) (oi := _) (v := .bool true) rfl rfl hns (by kernel_rfl) (by kernel_rfl) hQ (by kernel_rfl) (fun W _ => eqs_intE (s := q1) rfl (by kernel_rfl) (by kernel_rfl) W) aA ?_
        refine hx_take (i := 13) (oi := _) (v := .bool true) rfl rfl hns (by kernel_rfl) (by kernel_rfl) hQ (by kernel_rfl) (fun _ _ => by kernel_rfl) aA ?_
        refine wpAnyH_done (by kernel_rfl) ?_ _
        clear hns hQ
        simp only [List.set_cons_zero, List.set_cons_succ]
        go_wp2_with fail
        go_meet
        case rel => exact ⟨rfl, _, _, _, hS8, hT8, hR8, hZY8, HOK.out, hA8, hgZ7, hgY8⟩
      · obtain ⟨z1, hz1⟩ : ∃ z, Hid (posV (posF (S.map fun c => c.1) (canA ((a_s, a_p, a_n, (a_v0, a_l0), (a_v1, a_l1), (a_v2, a_l2), (a_v3, a_l3)) : Atm)) 0) = z) := ⟨_, rfl⟩
        obtain ⟨z2, hz2⟩ : ∃ z, Hid ((posF (S.map fun c => c.1) (canA ((a_s, a_p, a_n, (a_v0, a_l0), (a_v1, a_l1), (a_v2, a_l2), (a_v3, a_l3)) : Atm)) 0).isSome = z) := ⟨_, rfl⟩
        have HT := Lib.hid (fun W (h : Tab W B g Z S) => tfind_t a_s a_p a_n a_v0 a_v1 a_v2 a_v3 a_l0 a_l1 a_l2 a_l3 W h HFX.out.2.1)
        have HR := Lib.hid (fun W (h : Rtb W D r Y S) => rfind_u a_s a_p a_n a_v0 a_v1 a_v2 a_v3 a_l0 a_l1 a_l2 a_l3 W h HOK.out (by have := hk60.out; omega))
        rw [hz1.out, hz2.out] at HT HR
        clear hz1 hz2
        go_wp2_with fail
        refine (HT.out _ hT).mono ?_
        rintro e w7 ⟨rfl, hb⟩
        replace hT := hT.next hb
        replace hR := hR.next hb
        replace hS := hS.trans hb
        replace hA := hA.next hb
        clear hb x0 x1 x2 x3 x4 x5 x6 x7 x8 x9 x10 x11 x12 x13
        have x0 : w7.cell? ⟨gb, 0, none⟩ = some (.int .i64 kd) := hA.cell 0
        have x1 : w7.cell? ⟨gb, 1, none⟩ = some (.string ⟨a_s.toArray⟩) := hA.cell 1
        have x2 : w7.cell? ⟨gb, 2, none⟩ = some (.string ⟨a_p.toArray⟩) := hA.cell 2
        have x3 : w7.cell? ⟨gb, 3, none⟩ = some (.int .i64 a_n) := hA.cell 3
        have x4 : w7.cell? ⟨gb, 4, none⟩ = some (.bool a_v0) := hA.cell 4
        have x5 : w7.cell? ⟨gb, 5, none⟩ = some (.string ⟨a_l0.toArray⟩) := hA.cell 5
        have x6 : w7.cell? ⟨gb, 6, none⟩ = some (.bool a_v1) := hA.cell 6
        have x7 : w7.cell? ⟨gb, 7, none⟩ = some (.string ⟨a_l1.toArray⟩) := hA.cell 7
        have x8 : w7.cell? ⟨gb, 8, none⟩ = some (.bool a_v2) := hA.cell 8
        have x9 : w7.cell? ⟨gb, 9, none⟩ = some (.string ⟨a_l2.toArray⟩) := hA.cell 9
        have x10 : w7.cell? ⟨gb, 10, none⟩ = some (.bool a_v3) := hA.cell 10
        have x11 : w7.cell? ⟨gb, 11, none⟩ = some (.string ⟨a_l3.toArray⟩) := hA.cell 11
        have x12 : w7.cell? ⟨gb, 12, none⟩ = some (.int .i64 id) := hA.cell 12
        have x13 : w7.cell? ⟨gb, 13, none⟩ = some (.int .i64 who) := hA.cell 13
        go_wp2_with fail
        refine (HR.out _ hR).mono ?_
        rintro e w8 ⟨rfl, hb⟩
        replace hT := hT.next hb
        replace hR := hR.next hb
        replace hS := hS.trans hb
        replace hA := hA.next hb
        clear hb x0 x1 x2 x3 x4 x5 x6 x7 x8 x9 x10 x11 x12 x13
        go_wp2_with fail
        go_meet
        case rel => exact ⟨rfl, _, _, _, hS, hT, hR, hZY, HOK.out.more, hA, hgZ, hgY⟩
    case rest =>
    obtain ⟨rfl, S', Z', Y', hS, hT, hR, hZY, hok⟩ := hcut
    obtain ⟨hok, hA, hgZ, hgY⟩ := hok
    have HOK := Lib.hid hok
    have HX1 : Hid (∀ W, Since wc W → SSt w W B g D r (k + 1)) := fun W h => ⟨S', Z', Y', hS.trans h, hT.next h, hR.next h, hZY, HOK.out⟩
    have hk61 : Hid (k + 1 ≤ 61) := by show _ ≤ _; have := hk60.out; omega
    obtain ⟨⟨⟨c_s, c_p, c_n, ⟨c_v0, c_l0⟩, ⟨c_v1, c_l1⟩, ⟨c_v2, c_l2⟩, ⟨c_v3, c_l3⟩⟩, cf⟩, hcc⟩ : ∃ q, Hid (callU S' id = q) := ⟨_, rfl⟩
    have HTC : Hid (∀ W, Since wc W → Calls Tryz.prog 17 #[.pointer (some ⟨g, 0, none⟩), .int .i64 id] W fun e w' => e = .returned (.tuple #[.agg #[.string ⟨c_s.toArray⟩, .string ⟨c_p.toArray⟩, .int .i64 c_n, .bool c_v0, .string ⟨c_l0.toArray⟩, .bool c_v1, .string ⟨c_l1.toArray⟩, .bool c_v2, .string ⟨c_l2.toArray⟩, .bool c_v3, .string ⟨c_l3.toArray⟩], .bool cf]) ∧ Since W w') := fun W h => tcall_u id W (hT.next h) hcc.out
    have HRC : Hid (∀ W, Since wc W → Calls Tryz.prog 18 #[.pointer (some ⟨r, 0, none⟩), .int .i64 id] W fun e w' => e = .returned (.tuple #[.agg #[.string ⟨c_s.toArray⟩, .string ⟨c_p.toArray⟩, .int .i64 c_n, .bool c_v0, .string ⟨c_l0.toArray⟩, .bool c_v1, .string ⟨c_l1.toArray⟩, .bool c_v2, .string ⟨c_l2.toArray⟩, .bool c_v3, .string ⟨c_l3.toArray⟩], .bool cf]) ∧ Since W w') := fun W h => rcall_u id W (hR.next h) hcc.out
    obtain ⟨n, hn⟩ : ∃ n, Hid (S'.length = n) := ⟨_, rfl⟩
    obtain ⟨m, hm⟩ : ∃ m, Hid (cntS S' = m) := ⟨_, rfl⟩
    have HTL := Lib.hid (fun W (h : Since wc W) => tlen_t W (hT.next h))
    have HTN := Lib.hid (fun W (h : Since wc W) => tcount_t W (hT.next h))
    have HRN := Lib.hid (fun W (h : Since wc W) => rcount_u W (hR.next h) HOK.out hk61.out)
    obtain ⟨ra, rc, hra⟩ := rlen_u hR
    rw [hn.out] at HTL hra
    rw [hm.out] at HTN HRN
    have rA0 : At wc r 0 #[.slice ra n rc] := At.one hra
    have gA0 : At wc gb 0 #[.int .i64 kd, .string ⟨a_s.toArray⟩, .string ⟨a_p.toArray⟩, .int .i64 a_n, .bool a_v0, .string ⟨a_l0.toArray⟩, .bool a_v1, .string ⟨a_l1.toArray⟩, .bool a_v2, .string ⟨a_l2.toArray⟩, .bool a_v3, .string ⟨a_l3.toArray⟩, .int .i64 id, .int .i64 who] := hA.at
    obtain ⟨LW, hLW⟩ : ∃ q, Hid (whoU S' id = q) := ⟨_, rfl⟩
    obtain ⟨LN, hLN⟩ : ∃ q, Hid (ansU S' id = q) := ⟨_, rfl⟩
    have hlw : Hid (LW.length ≤ 1000000) := by show _ ≤ _; rw [← hLW.out]; have := who_len HOK.out id; have := hk61.out; omega
    have hln : Hid (LN.length ≤ 1000000) := by show _ ≤ _; rw [← hLN.out]; have := ans_len HOK.out id; have := hk61.out; omega
    have HTW := Lib.hid (fun W (h : Since wc W) => twho_u id W (hT.next h) hLW.out)
    have HRW := Lib.hid (fun W (h : Since wc W) => rwho_u id W (hR.next h) HOK.out hk61.out hLW.out)
    have HTA := Lib.hid (fun W (h : Since wc W) => tans_u id W (hT.next h) hLN.out)
    have HRA := Lib.hid (fun W (h : Since wc W) => rans_u id W (hR.next h) HOK.out hk61.out hLN.out)
    have HSW := Lib.hid (fun W v1 v2 (h1 : IRow W v1 LW) (h2 : IRow W v2 LW) => same_ints v1 v2 LW W h1 h2 hlw.out)
    have HSA := Lib.hid (fun W v1 v2 (h1 : ARow W v1 LN) (h2 : ARow W v2 LN) => same_atms v1 v2 LN W h1 h2 hln.out)
    have x12 : wc.cell? ⟨gb, 12, none⟩ = some (.int .i64 id) := hA.cell 12
    clear hok hS hT hR hZY hA hgZ hgY hra hcc hn hm hLW hLN hlw hln
    go_wp2_with fail
    refine (HTC.out _ (Since.refl _)).mono ?_
    rintro e w10 ⟨rfl, hb⟩
    go_upto_region 26 with (fail)
    have hS11 : Since wc (w10.alloc (.cells #[.string ⟨c_s.toArray⟩, .string ⟨c_p.toArray⟩, .int .i64 c_n, .bool c_v0, .string ⟨c_l0.toArray⟩, .bool c_v1, .string ⟨c_l1.toArray⟩, .bool c_v2, .string ⟨c_l2.toArray⟩, .bool c_v3, .string ⟨c_l3.toArray⟩] 33)) := hb.alloc _
    have c1A0 : At (w10.alloc (.cells #[.string ⟨c_s.toArray⟩, .string ⟨c_p.toArray⟩, .int .i64 c_n, .bool c_v0, .string ⟨c_l0.toArray⟩, .bool c_v1, .string ⟨c_l1.toArray⟩, .bool c_v2, .string ⟨c_l2.toArray⟩, .bool c_v3, .string ⟨c_l3.toArray⟩] 33)) w10.heap.size 0 #[.string ⟨c_s.toArray⟩, .string ⟨c_p.toArray⟩, .int .i64 c_n, .bool c_v0, .string ⟨c_l0.toArray⟩, .bool c_v1, .string ⟨c_l1.toArray⟩, .bool c_v2, .string ⟨c_l2.toArray⟩, .bool c_v3, .string ⟨c_l3.toArray⟩] := Cel.at (T := 33) (heap_alloc_new w10 _)
    generalize w10.alloc (.cells #[.string ⟨c_s.toArray⟩, .string ⟨c_p.toArray⟩, .int .i64 c_n, .bool c_v0, .string ⟨c_l0.toArray⟩, .bool c_v1, .string ⟨c_l1.toArray⟩, .bool c_v2, .string ⟨c_l2.toArray⟩, .bool c_v3, .string ⟨c_l3.toArray⟩] 33) = w11 at *
    generalize w10.heap.size = g1 at *
    replace x12 := hS11.cell x12
    clear hb HTC
    go_wp2_with fail
    refine (HRC.out _ hS11).mono ?_
    rintro e w12 ⟨rfl, hb⟩
    go_upto_region 27 with (fail)
    have hS13a : Since w11 (w12.alloc (.cells #[.string ⟨c_s.toArray⟩, .string ⟨c_p.toArray⟩, .int .i64 c_n, .bool c_v0, .string ⟨c_l0.toArray⟩, .bool c_v1, .string ⟨c_l1.toArray⟩, .bool c_v2, .string ⟨c_l2.toArray⟩, .bool c_v3, .string ⟨c_l3.toArray⟩] 33)) := hb.alloc _
    have hS13 := hS11.trans hS13a
    have c1A := c1A0.next hS13a
    have c2A : At (w12.alloc (.cells #[.string ⟨c_s.toArray⟩, .string ⟨c_p.toArray⟩, .int .i64 c_n, .bool c_v0, .string ⟨c_l0.toArray⟩, .bool c_v1, .string ⟨c_l1.toArray⟩, .bool c_v2, .string ⟨c_l2.toArray⟩, .bool c_v3, .string ⟨c_l3.toArray⟩] 33)) w12.heap.size 0 #[.string ⟨c_s.toArray⟩, .string ⟨c_p.toArray⟩, .int .i64 c_n, .bool c_v0, .string ⟨c_l0.toArray⟩, .bool c_v1, .string ⟨c_l1.toArray⟩, .bool c_v2, .string ⟨c_l2.toArray⟩, .bool c_v3, .string ⟨c_l3.toArray⟩] := Cel.at (T := 33) (heap_alloc_new w12 _)
    generalize w12.alloc (.cells #[.string ⟨c_s.toArray⟩, .string ⟨c_p.toArray⟩, .int .i64 c_n, .bool c_v0, .string ⟨c_l0.toArray⟩, .bool c_v1, .string ⟨c_l1.toArray⟩, .bool c_v2, .string ⟨c_l2.toArray⟩, .bool c_v3, .string ⟨c_l3.toArray⟩] 33) = w13 at *
    generalize w12.heap.size = g2 at *
    have rA := rA0.next hS13
    have gA := gA0.next hS13
    clear x12 hb HRC hS11 hS13a rA0 gA0 c1A0
    refine reg27_any HTL HTN HRN HTW HRW HTA HRA HSW HSA hS13 c1A c2A gA rA _ (fun _ _ _ _ _ h => h) ?_
    intro v1 v2 v3 v4 wE hsE
    have hSE := hS13.trans hsE
    clear HTL HTN HRN HTW HRW HTA HRA HSW HSA hS13 c1A c2A gA rA hsE
    have hk9 := hk60.out
    have hwk : wrap64 ((k : Int) + 1) = (k : Int) + 1 := IntWalk.wrap64_in _ (by omega)
    go_wp2_with fail
    go_roundw
    case rel => exact ⟨k + 1, by omega, by go_num, HX1.out _ hSE⟩
    case measure => simp [intOf]; omega
  have hlt2 : ¬ (k : Int) < (L.length : Int) := by omega
  go_wp2_with fail
  go_ret
  obtain ⟨_, _, _, hS, _⟩ := hX
  exact ⟨rfl, hS⟩
end Go.Proofs.YtbgdljcgbhhfdaaGreatDoor
