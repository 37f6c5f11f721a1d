/- TableOnce: the walk. -/
import Derived.Test.YtbgdljcgbhhfdaaDoorTabK
namespace Go.Proofs.YtbgdljcgbhhfdaaDoor
open Go.RowKit Go.Maps Go.WideMaps
attribute [local go_sem ↓] run_atomEq
attribute [local go_sem] eqA_self

set_option maxHeartbeats 1000000 in
set_option maxRecDepth 100000 in
theorem eqg_atom {o : Oper} {x y : Operand} {ev : Operand → Value} (a_s a_p : List UInt8) (a_n : Int) (a_v0 a_v1 a_v2 a_v3 : Bool) (a_l0 a_l1 a_l2 a_l3 : List UInt8) (b_s b_p : List UInt8) (b_n : Int) (b_v0 b_v1 b_v2 b_v3 : Bool) (b_l0 b_l1 b_l2 b_l3 : List UInt8) (ho : o.op = Op.binOp .eql 34 x y 34) (hx : ev x = .agg #[.string ⟨a_s.toArray⟩, .string ⟨a_p.toArray⟩, .int .i64 a_n, .bool a_v0, .string ⟨a_l0.toArray⟩, .bool a_v1, .string ⟨a_l1.toArray⟩, .bool a_v2, .string ⟨a_l2.toArray⟩, .bool a_v3, .string ⟨a_l3.toArray⟩]) (hy : ev y = .agg #[.string ⟨b_s.toArray⟩, .string ⟨b_p.toArray⟩, .int .i64 b_n, .bool b_v0, .string ⟨b_l0.toArray⟩, .bool b_v1, .string ⟨b_l1.toArray⟩, .bool b_v2, .string ⟨b_l2.toArray⟩, .bool b_v3, .string ⟨b_l3.toArray⟩]) (W : World) :
    (execOp ev o).run Tryd.prog W = .ok (.value (.bool (eqA ((a_s, a_p, a_n, (a_v0, a_l0), (a_v1, a_l1), (a_v2, a_l2), (a_v3, a_l3)) : Atm) ((b_s, b_p, b_n, (b_v0, b_l0), (b_v1, b_l1), (b_v2, b_l2), (b_v3, b_l3)) : Atm)))) W := by
  simp only [execOp, ho]
  go_simp
theorem bin_valT {o : Oper} {ev : Operand → Value} {P : Program} {W : World} {u v : Bool} (h : (execOp ev o).run P W = .ok (.value (.bool u)) W) (e : u = v) : (execOp ev o).run P W = .ok (.value (.bool v)) W := e ▸ h
/-- The place that the law finds among the first m. -/
def atF (P : List Atm) (c : Atm) (m : Nat) : Nat := (posF (P.take m) c 0).getD P.length
theorem atF_yes {P : List Atm} {c : Atm} {m : Nat} (hn : P.Nodup) (hm : m < P.length) (h : P[m] = c) : atF P c (m + 1) = m := by
  unfold atF
  rw [List.take_succ_eq_append_getElem hm, posF_snoc]
  have h0 : posF (P.take m) c 0 = none := by
    rw [posF_none]
    intro hc
    obtain ⟨i, hi, e⟩ := List.getElem_of_mem hc
    rw [List.length_take] at hi
    rw [List.getElem_take] at e
    exact List.pairwise_iff_getElem.1 hn i m (by omega) hm (by omega) (e.trans h.symm)
  rw [h0, if_pos h, List.length_take]
  simp only [Option.getD_some]
  omega
theorem atF_no {P : List Atm} {c : Atm} {m : Nat} (hm : m < P.length) (h : ¬ P[m] = c) : atF P c (m + 1) = atF P c m := by
  unfold atF
  rw [List.take_succ_eq_append_getElem hm, posF_snoc, if_neg h]
  cases posF (P.take m) c 0 <;> rfl
theorem atF_all {P : List Atm} {c : Atm} : atF P c P.length = (posF P c 0).getD P.length := by
  unfold atF
  rw [List.take_of_length_le (Nat.le_refl _)]
theorem own_push11 {W : World} {B : Nat} {v : Value} {P : List Atm} {c : Atm} {xs : List Value} (h : W.ownsRow B 34 11 v (P.length + 1) (P.flatMap atmL ++ xs)) (hx : xs = (atmC c).toList) : W.ownsRow B 34 11 v (P ++ [c]).length ((P ++ [c]).flatMap atmL) := by
  rw [List.length_append, List.flatMap_append]
  subst hx
  simpa [atmL] using h
theorem cells_row1 (w : World) (cs : Array Value) (T : TypeId) : ∀ j u, cs.toList[j]? = some u → (w.alloc (.cells cs T)).cell? ((⟨w.heap.size, 0, none⟩ : Addr).add j) = some u := by
  intro j u hu
  have hC : Cel (w.alloc (.cells cs T)) w.heap.size cs T := heap_alloc_new w _
  rw [add_form, Nat.zero_add, hC.cell j, ← Array.getElem?_toList]
  exact hu
theorem once_tail {w w8 w9 : World} {B g cb : Nat} {Z : Nat → Prop} {S' : List TCall} {u v : Value} {P : List Atm} {c : Atm} {o : Obj} {xs : List Value} (hT : Tab w8 B g Z S') (hS : Since w w8) (hrow : w8.ownsRow w.heap.size 34 11 u P.length (P.flatMap atmL)) (hC : Cel w8 cb (atmC c) 34) (hzz : ∀ b, u.ownBlock = some b → ¬ Z b) (hcb : ∀ b, u.ownBlock = some b → b ≠ cb)
    (hg : (w8.alloc o).grownBy w9 u.ownBlock) (hown : w9.ownsRow w.heap.size 34 11 v (P.length + 1) (P.flatMap atmL ++ xs)) (hx : xs = (atmC c).toList) (hat : v.ownBlock = u.ownBlock ∨ v.ownBlock = some (w8.alloc o).heap.size) :
    Tab w9 B g Z S' ∧ Since w w9 ∧ w9.ownsRow w.heap.size 34 11 v (P ++ [c]).length ((P ++ [c]).flatMap atmL) ∧ Cel w9 cb (atmC c) 34 ∧ ∀ b, v.ownBlock = some b → ¬ Z b := by
  have ha : Since w8 (w8.alloc o) := (Since.refl _).alloc o
  refine ⟨(hT.next ha).far hg hzz, Below.grown (hS.trans ha) hg (hS.trans ha).size (fun b hb => (hrow.lt b hb).1), own_push11 hown hx, (hC.next ha).grown hg (fun e => hcb cb e.symm rfl), fun b hb hz => ?_⟩
  rcases hat with h | h
  · exact hzz b (h ▸ hb) hz
  · rw [h] at hb
    injection hb with hb
    have := (hT.low b hz).2
    have := ha.size
    omega
set_option maxHeartbeats 0 in
set_option maxRecDepth 100000 in
theorem once_any (va : Option Addr) (lc : Nat) (L : List Atm) (w : World) (hv : ARow w (.slice va L.length lc) L) (hF : ∀ a ∈ L, FitsN a) (hE : Env w) :
    Calls Tryd.prog 3 #[.slice va L.length lc] w fun e w' => e = .returned (.bool true) ∧ Since w w' := by
  obtain ⟨i5, hi, hz0, hz1, hz2⟩ := info_parts own_atm_info
  have I5 := Lib.hid (And.intro hi (And.intro hz0 (And.intro hz1 hz2)))
  clear hi hz0 hz1 hz2
  have HE := Lib.hid hE
  have HV := Lib.hid hv
  have HF := Lib.hid hF
  obtain ⟨LA, hLA⟩ : ∃ B, Hid (B = lightAs 40 L) := ⟨_, rfl⟩
  have H1 := Lib.hid (fun W (h : Since w W) => lightatoms_any _ 40 L W (anext HV.out h) (by decide))
  rw [← hLA.out] at H1
  clear hE hv hF
  go_enter Tryd.func3, Tryd.ntmps3
  go_wp2_with fail
  refine (lives18_any _ HE.out).mono ?_
  rintro e w2 ⟨rfl, hb2⟩
  cases LA
  · go_wp2_with fail
    refine (H1.out _ hb2).mono ?_
    rintro e w3 ⟨rfl, hb3⟩
    go_wp2_with fail
    go_ret
    exact ⟨rfl, hb2.trans hb3⟩
  have hlen : Hid (L.length ≤ 40) := by show _ ≤ _; have := (lightAs_of hLA.out.symm).1; omega
  go_wp2_with fail
  refine (H1.out _ hb2).mono ?_
  rintro e w3 ⟨rfl, hb3⟩
  have hS3 := hb2.trans hb3
  clear H1 hLA hb2 hb3
  go_wp2_with fail
  refine (tnew_t _).mono ?_
  rintro e w4 ⟨g, rfl, ⟨Z0, hT0⟩, hb4⟩
  obtain ⟨B, hB0⟩ : ∃ B, Hid (w3.heap.size = B) := ⟨_, rfl⟩
  have HB : Hid (w.heap.size ≤ B) := by show _ ≤ _; rw [← hB0.out]; exact hS3.size
  rw [hB0.out] at hT0
  have hS4 := hS3.trans hb4
  clear hb4 hB0 hS3
  go_wp2_with fail
  go_loopw [5, 4] (fun i sv wr => ∃ (k : Nat) (S : List TCall) (P : List Atm) (Z : Nat → Prop), k ≤ L.length ∧ i = .int .i64 (k : Int) ∧ Since w wr ∧ Tab wr B g Z S ∧ wr.ownsRow w.heap.size 34 11 sv P.length (P.flatMap atmL) ∧ (∀ b, sv.ownBlock = some b → ¬ Z b) ∧ Hid (P = S.map fun c => c.1) ∧ Hid (P.length = S.length) ∧ P.length ≤ k) (fun i _ _ => L.length - (intOf i).toNat)
  case atStart => exact ⟨0, [], [], Z0, by omega, rfl, hS4, hT0, World.ownsRow_nil _ _ _ _, (fun b hb => by cases hb), rfl, rfl, Nat.zero_le _⟩
  case round =>
  rename World => wo
  clear hT0 hS4
  obtain ⟨k, S, P, Z, hk, rfl, hS, hT, hrow, hz, hP, hPl, hPk⟩ := hrel
  obtain ⟨sa, sc, rfl⟩ : ∃ a c, u4 = .slice a P.length c := own_slice hrow
  by_cases hlt : k < L.length
  · have hlt2 : (k : Int) < (L.length : Int) := by omega
    have hlt0 : (0 : Int) ≤ (k : Int) := by omega
    have hl40 : L.length ≤ 40 := hlen.out
    obtain ⟨b, ob, rfl, hc, hat⟩ := HV.out.get (by omega)
    have HD0 := Lib.hid (hat k hlt)
    have hfx := HF.out _ (List.getElem_mem hlt)
    obtain ⟨x, hx⟩ : ∃ x, Hid (x = L[k]) := ⟨L[k], rfl⟩
    rw [← hx.out] at HD0 hfx
    obtain ⟨x_s, x_p, x_n, ⟨x_v0, x_l0⟩, ⟨x_v1, x_l1⟩, ⟨x_v2, x_l2⟩, ⟨x_v3, x_l3⟩⟩ := x
    have HFX := Lib.hid hfx
    have d1 := HD0.out.next hS
    obtain ⟨x_c0, x_c1, x_c2, x_c3, x_c4, x_c5, x_c6, x_c7, x_c8, x_c9, x_c10⟩ := d1.all
    clear hat hx d1 hfx
    by_cases hk0 : checkA ((x_s, x_p, x_n, (x_v0, x_l0), (x_v1, x_l1), (x_v2, x_l2), (x_v3, x_l3)) : Atm) = 0
    case neg =>
      obtain ⟨kk, hk2⟩ : ∃ k, Hid (k = checkA ((x_s, x_p, x_n, (x_v0, x_l0), (x_v1, x_l1), (x_v2, x_l2), (x_v3, x_l3)) : Atm)) := ⟨_, rfl⟩
      go_wp2_with fail
      refine (topen_bad x_s x_p x_n x_v0 x_v1 x_v2 x_v3 x_l0 x_l1 x_l2 x_l3 wo HFX.out (HE.out.next hS) hk0).mono ?_
      rintro e w5 ⟨rfl, hb5⟩
      clear x_c0 x_c1 x_c2 x_c3 x_c4 x_c5 x_c6 x_c7 x_c8 x_c9 x_c10
      go_wp2_with fail
      go_roundw
      case rel => exact ⟨k + 1, S, P, Z, by omega, by go_num, hS.trans hb5, hT.next hb5, own_since hrow hb5, hz, hP, hPl, by omega⟩
      case measure => simp [intOf]; omega
    obtain ⟨⟨id, fr, S'⟩, hO⟩ : ∃ q, Hid (openS S ((x_s, x_p, x_n, (x_v0, x_l0), (x_v1, x_l1), (x_v2, x_l2), (x_v3, x_l3)) : Atm) = q) := ⟨_, rfl⟩
    obtain ⟨f1, f2, f3, f4, f5, f6⟩ := openS_facts hO.out
    have hl1000 : S.length < 1000 := by have := hPl.out; omega
    have HOP := Lib.hid (topen_t x_s x_p x_n x_v0 x_v1 x_v2 x_v3 x_l0 x_l1 x_l2 x_l3 wo hT HFX.out (HE.out.next hS) hk0 hl1000 hO.out)
    have HCA := Lib.hid (fun W => rcanon_any x_s x_p x_n x_v0 x_v1 x_v2 x_v3 x_l0 x_l1 x_l2 x_l3 W)
    have hfc := canA_fits HFX.out
    have hcc := canA_canA ((x_s, x_p, x_n, (x_v0, x_l0), (x_v1, x_l1), (x_v2, x_l2), (x_v3, x_l3)) : Atm)
    obtain ⟨c, hc0⟩ : ∃ c, Hid (c = canA ((x_s, x_p, x_n, (x_v0, x_l0), (x_v1, x_l1), (x_v2, x_l2), (x_v3, x_l3)) : Atm)) := ⟨_, rfl⟩
    rw [← hc0.out] at HCA hfc f1 f2 f3 f6 hcc
    rw [← hP.out] at f2
    obtain ⟨c_s, c_p, c_n, ⟨c_v0, c_l0⟩, ⟨c_v1, c_l1⟩, ⟨c_v2, c_l2⟩, ⟨c_v3, c_l3⟩⟩ := c
    replace HCA : Hid (∀ W, Calls Tryd.prog 11 #[.agg #[.string ⟨x_s.toArray⟩, .string ⟨x_p.toArray⟩, .int .i64 x_n, .bool x_v0, .string ⟨x_l0.toArray⟩, .bool x_v1, .string ⟨x_l1.toArray⟩, .bool x_v2, .string ⟨x_l2.toArray⟩, .bool x_v3, .string ⟨x_l3.toArray⟩]] W fun e w' => e = .returned (.agg #[.string ⟨c_s.toArray⟩, .string ⟨c_p.toArray⟩, .int .i64 c_n, .bool c_v0, .string ⟨c_l0.toArray⟩, .bool c_v1, .string ⟨c_l1.toArray⟩, .bool c_v2, .string ⟨c_l2.toArray⟩, .bool c_v3, .string ⟨c_l3.toArray⟩]) ∧ Since W w') := HCA
    have HFI : Hid (∀ W Z, Tab W B g Z S' → Calls Tryd.prog 12 #[.pointer (some ⟨g, 0, none⟩), .agg #[.string ⟨c_s.toArray⟩, .string ⟨c_p.toArray⟩, .int .i64 c_n, .bool c_v0, .string ⟨c_l0.toArray⟩, .bool c_v1, .string ⟨c_l1.toArray⟩, .bool c_v2, .string ⟨c_l2.toArray⟩, .bool c_v3, .string ⟨c_l3.toArray⟩]] W fun e w' => e = .returned (.tuple #[.int .i64 (id : Int), .bool true]) ∧ Since W w') := by
      intro W Z hT
      have := tfind_t c_s c_p c_n c_v0 c_v1 c_v2 c_v3 c_l0 c_l1 c_l2 c_l3 W hT hfc
      rw [hcc, f1] at this
      exact this
    have HCL : Hid (∀ W Z, Tab W B g Z S' → Calls Tryd.prog 13 #[.pointer (some ⟨g, 0, none⟩), .int .i64 (id : Int)] W fun e w' => e = .returned (.tuple #[.agg #[.string ⟨c_s.toArray⟩, .string ⟨c_p.toArray⟩, .int .i64 c_n, .bool c_v0, .string ⟨c_l0.toArray⟩, .bool c_v1, .string ⟨c_l1.toArray⟩, .bool c_v2, .string ⟨c_l2.toArray⟩, .bool c_v3, .string ⟨c_l3.toArray⟩], .bool true]) ∧ Since W w') := by
      intro W Z hT
      have := tcall_t id W hT f5
      rw [f6] at this
      exact this
    have HLE : Hid (∀ W Z, Tab W B g Z S' → Calls Tryd.prog 14 #[.pointer (some ⟨g, 0, none⟩)] W fun e w' => e = .returned (.int .i64 (S'.length : Int)) ∧ Since W w') := fun W Z hT => tlen_t W hT
    have HND : Hid P.Nodup := by rw [hP.out]; exact hT.nd
    have HAF : Hid (atF P ((c_s, c_p, c_n, (c_v0, c_l0), (c_v1, c_l1), (c_v2, c_l2), (c_v3, c_l3)) : Atm) P.length = id) := by
      show _ = _
      rw [atF_all, f2]
      cases fr
      · rfl
      · exact hPl.out.trans (f3 rfl).1.symm
    have HF3 := Lib.hid f3
    have HF4 := Lib.hid f4
    clear f1 f2 f3 f4 f5 f6 hcc hfc hk0 hO hc0 hl1000
    go_wp2_with fail
    refine HOP.out.mono ?_
    rintro e w5 ⟨rfl, hop⟩
    obtain ⟨Z', hT5, hk5, hz5⟩ := hop.split
    have hrow5 := hk5.own hrow hz
    have hzz : ∀ b, (Value.slice sa P.length sc).ownBlock = some b → ¬ Z' b := fun b hb => hz5 b (hrow.lt b hb).2 (hz b hb)
    have hS5 := hT.since hk5 hS HB.out
    clear hop hz5 hk5 hrow hz hT hS HOP x_c0 x_c1 x_c2 x_c3 x_c4 x_c5 x_c6 x_c7 x_c8 x_c9 x_c10
    have d1 := HD0.out.next hS5
    obtain ⟨x_c0, x_c1, x_c2, x_c3, x_c4, x_c5, x_c6, x_c7, x_c8, x_c9, x_c10⟩ := d1.all
    clear d1
    go_wp2_with fail
    refine (HCA.out _).mono ?_
    rintro e w6 ⟨rfl, hb6⟩
    have hS6 := hS5.trans hb6
    have hT6 := hT5.next hb6
    have hrow6 := own_since hrow5 hb6
    clear HCA hb6 hS5 hT5 hrow5 x_c0 x_c1 x_c2 x_c3 x_c4 x_c5 x_c6 x_c7 x_c8 x_c9 x_c10
    have K7 : Hid (Cel (w6.alloc (.cells #[.string ⟨#[]⟩, .string ⟨#[]⟩, .int .i64 0, .bool false, .string ⟨#[]⟩, .bool false, .string ⟨#[]⟩, .bool false, .string ⟨#[]⟩, .bool false, .string ⟨#[]⟩] 34)) w6.heap.size #[.string ⟨#[]⟩, .string ⟨#[]⟩, .int .i64 0, .bool false, .string ⟨#[]⟩, .bool false, .string ⟨#[]⟩, .bool false, .string ⟨#[]⟩, .bool false, .string ⟨#[]⟩] 34) := heap_alloc_new w6 _
    have hone : Hid (((#[.string ⟨c_s.toArray⟩, .string ⟨c_p.toArray⟩, .int .i64 c_n, .bool c_v0, .string ⟨c_l0.toArray⟩, .bool c_v1, .string ⟨c_l1.toArray⟩, .bool c_v2, .string ⟨c_l2.toArray⟩, .bool c_v3, .string ⟨c_l3.toArray⟩] : Array Value).all (·.oneCell')) = true) := by show _ = _; simp [Value.oneCell']
    go_wp2_with (refine wpList_store_row rfl 34 (.tmp 9) (.tmp 44) rfl w6.heap.size #[.string ⟨c_s.toArray⟩, .string ⟨c_p.toArray⟩, .int .i64 c_n, .bool c_v0, .string ⟨c_l0.toArray⟩, .bool c_v1, .string ⟨c_l1.toArray⟩, .bool c_v2, .string ⟨c_l2.toArray⟩, .bool c_v3, .string ⟨c_l3.toArray⟩] rfl rfl 34 #[.string ⟨#[]⟩, .string ⟨#[]⟩, .int .i64 0, .bool false, .string ⟨#[]⟩, .bool false, .string ⟨#[]⟩, .bool false, .string ⟨#[]⟩, .bool false, .string ⟨#[]⟩] K7.out ainfoC rfl hone.out ?_)
    have hC7 : Cel ((w6.alloc (.cells #[.string ⟨#[]⟩, .string ⟨#[]⟩, .int .i64 0, .bool false, .string ⟨#[]⟩, .bool false, .string ⟨#[]⟩, .bool false, .string ⟨#[]⟩, .bool false, .string ⟨#[]⟩] 34)).setRow w6.heap.size #[.string ⟨c_s.toArray⟩, .string ⟨c_p.toArray⟩, .int .i64 c_n, .bool c_v0, .string ⟨c_l0.toArray⟩, .bool c_v1, .string ⟨c_l1.toArray⟩, .bool c_v2, .string ⟨c_l2.toArray⟩, .bool c_v3, .string ⟨c_l3.toArray⟩]) w6.heap.size #[.string ⟨c_s.toArray⟩, .string ⟨c_p.toArray⟩, .int .i64 c_n, .bool c_v0, .string ⟨c_l0.toArray⟩, .bool c_v1, .string ⟨c_l1.toArray⟩, .bool c_v2, .string ⟨c_l2.toArray⟩, .bool c_v3, .string ⟨c_l3.toArray⟩] 34 := K7.out.row _
    have hS67 : Since w6 ((w6.alloc (.cells #[.string ⟨#[]⟩, .string ⟨#[]⟩, .int .i64 0, .bool false, .string ⟨#[]⟩, .bool false, .string ⟨#[]⟩, .bool false, .string ⟨#[]⟩, .bool false, .string ⟨#[]⟩] 34)).setRow w6.heap.size #[.string ⟨c_s.toArray⟩, .string ⟨c_p.toArray⟩, .int .i64 c_n, .bool c_v0, .string ⟨c_l0.toArray⟩, .bool c_v1, .string ⟨c_l1.toArray⟩, .bool c_v2, .string ⟨c_l2.toArray⟩, .bool c_v3, .string ⟨c_l3.toArray⟩]) := since_setRow ((Since.refl w6).alloc _) (Nat.le_refl _) _
    have hS7 := hS6.trans hS67
    have hT7 := hT6.next hS67
    have hrow7 := own_since hrow6 hS67
    obtain ⟨cb, hcb⟩ : ∃ n, Hid (w6.heap.size = n) := ⟨_, rfl⟩
    obtain ⟨w7, hw7⟩ : ∃ n, Hid ((w6.alloc (.cells #[.string ⟨#[]⟩, .string ⟨#[]⟩, .int .i64 0, .bool false, .string ⟨#[]⟩, .bool false, .string ⟨#[]⟩, .bool false, .string ⟨#[]⟩, .bool false, .string ⟨#[]⟩] 34)).setRow w6.heap.size #[.string ⟨c_s.toArray⟩, .string ⟨c_p.toArray⟩, .int .i64 c_n, .bool c_v0, .string ⟨c_l0.toArray⟩, .bool c_v1, .string ⟨c_l1.toArray⟩, .bool c_v2, .string ⟨c_l2.toArray⟩, .bool c_v3, .string ⟨c_l3.toArray⟩] = n) := ⟨_, rfl⟩
    have hlt6 := fun b hb => (hrow6.lt b hb).2
    have HCR : Hid (∀ b, (Value.slice sa P.length sc).ownBlock = some b → b ≠ cb) := by intro b hb e; have := hlt6 b hb; rw [hcb.out] at this; omega
    rw [hw7.out] at hC7 hS7 hT7 hrow7
    rw [hcb.out] at hC7
    rw [hw7.out, hcb.out]
    clear hw7 hcb hS67 hS6 hT6 hrow6 K7 hone hlt6
    have HAR := Lib.hid (own_arow1 hrow7)
    clear hlt2 hlt0
    go_wp2_with fail
    go_loopw [11, 10] (fun m at_ wr => ∃ q : Nat, q ≤ P.length ∧ m = .int .i64 (q : Int) ∧ at_ = .int .i64 (atF P ((c_s, c_p, c_n, (c_v0, c_l0), (c_v1, c_l1), (c_v2, c_l2), (c_v3, c_l3)) : Atm) q : Int) ∧ Since w7 wr) (fun m _ _ => P.length - (intOf m).toNat)
    case atStart => exact ⟨0, by omega, rfl, by simp [atF, posF], Since.refl _⟩
    case round =>
    rename World => w8
    obtain ⟨q, hq, rfl, rfl, hS8⟩ := hrel
    by_cases hqt : q < P.length
    · have hqt2 : (q : Int) < (P.length : Int) := by omega
      have hqt0 : (0 : Int) ≤ (q : Int) := by omega
      go_wp2_with fail
      obtain ⟨bs, os, es, hcs, hats⟩ := HAR.out.get (by omega)
      have t1 := hats q hqt
      obtain ⟨⟨z_s, z_p, z_n, ⟨z_v0, z_l0⟩, ⟨z_v1, z_l1⟩, ⟨z_v2, z_l2⟩, ⟨z_v3, z_l3⟩⟩, hzq⟩ : ∃ x, Hid (x = P[q]) := ⟨P[q], rfl⟩
      rw [← hzq.out] at t1
      have tA0 : At w7 bs (os + q * 11) #[.string ⟨z_s.toArray⟩, .string ⟨z_p.toArray⟩, .int .i64 z_n, .bool z_v0, .string ⟨z_l0.toArray⟩, .bool z_v1, .string ⟨z_l1.toArray⟩, .bool z_v2, .string ⟨z_l2.toArray⟩, .bool z_v3, .string ⟨z_l3.toArray⟩] := t1
      have tA := tA0.next hS8
      have xA := (hC7.next hS8).at
      subst es
      clear hats t1 tA0
      cases hq9 : eqA ((z_s, z_p, z_n, (z_v0, z_l0), (z_v1, z_l1), (z_v2, z_l2), (z_v3, z_l3)) : Atm) ((c_s, c_p, c_n, (c_v0, c_l0), (c_v1, c_l1), (c_v2, c_l2), (c_v3, c_l3)) : Atm)
      case false =>
        have hnx : Hid (atF P ((c_s, c_p, c_n, (c_v0, c_l0), (c_v1, c_l1), (c_v2, c_l2), (c_v3, c_l3)) : Atm) (q + 1) = atF P ((c_s, c_p, c_n, (c_v0, c_l0), (c_v1, c_l1), (c_v2, c_l2), (c_v3, c_l3)) : Atm) q) := atF_no hqt (fun e => by rw [← hzq.out] at e; rw [e, eqA_self] at hq9; cases hq9)
        replace tA := tA.next ((Since.refl w8).drew)
        replace xA := xA.next ((Since.refl w8).drew)
        replace hS8 := hS8.trans ((Since.refl w8).drew)
        refine hx_begin (S := fun W => (At W bs (os + q * 11) #[.string ⟨z_s.toArray⟩, .string ⟨z_p.toArray⟩, .int .i64 z_n, .bool z_v0, .string ⟨z_l0.toArray⟩, .bool z_v1, .string ⟨z_l1.toArray⟩, .bool z_v2, .string ⟨z_l2.toArray⟩, .bool z_v3, .string ⟨z_l3.toArray⟩]) ∧ (At W cb 0 #[.string ⟨c_s.toArray⟩, .string ⟨c_p.toArray⟩, .int .i64 c_n, .bool c_v0, .string ⟨c_l0.toArray⟩, .bool c_v1, .string ⟨c_l1.toArray⟩, .bool c_v2, .string ⟨c_l2.toArray⟩, .bool c_v3, .string ⟨c_l3.toArray⟩]) ∧ (Since w7 W)) (by kernel_rfl) ⟨tA, xA, hS8⟩ (by kernel_rfl) (fun _ _ _ _ _ h => h) (fun hns hQ => ?_)
        refine hx_take (i := 0) (oi := _) (v := .slice (some ⟨bs, os, none⟩) P.length sc) rfl rfl hns (by kernel_rfl) (by kernel_rfl) hQ (by kernel_rfl) (fun _ _ => by kernel_rfl) ⟨tA, xA, hS8⟩ ?_
        refine hx_take (i := 1) (oi := _) (v := .int .i64 (q : Int)) rfl rfl hns (by kernel_rfl) (by kernel_rfl) hQ (by kernel_rfl) (fun _ _ => by kernel_rfl) ⟨tA, xA, hS8⟩ ?_
        refine hx_take (i := 2) (oi := _) (v := .pointer (some ⟨bs, os + q * 11, none⟩)) rfl rfl hns (by kernel_rfl) (by kernel_rfl) hQ (by kernel_rfl) (fun W _ => ix_sl (n := P.length) (c := sc) (K := 11) rfl (by kernel_rfl) (by kernel_rfl) (by kernel_rfl) rfl hqt W) ⟨tA, xA, hS8⟩ ?_
        refine hx_take (i := 3) (oi := _) (v := .agg #[.string ⟨z_s.toArray⟩, .string ⟨z_p.toArray⟩, .int .i64 z_n, .bool z_v0, .string ⟨z_l0.toArray⟩, .bool z_v1, .string ⟨z_l1.toArray⟩, .bool z_v2, .string ⟨z_l2.toArray⟩, .bool z_v3, .string ⟨z_l3.toArray⟩]) rfl rfl hns (by kernel_rfl) (by kernel_rfl) hQ (by kernel_rfl) (fun W hW => ld_at rfl (by kernel_rfl) (by kernel_rfl) (by kernel_rfl) W (hW.1)) ⟨tA, xA, hS8⟩ ?_
        refine hx_take (i := 4) (oi := _) (v := .agg #[.string ⟨c_s.toArray⟩, .string ⟨c_p.toArray⟩, .int .i64 c_n, .bool c_v0, .string ⟨c_l0.toArray⟩, .bool c_v1, .string ⟨c_l1.toArray⟩, .bool c_v2, .string ⟨c_l2.toArray⟩, .bool c_v3, .string ⟨c_l3.toArray⟩]) rfl rfl hns (by kernel_rfl) (by kernel_rfl) hQ (by kernel_rfl) (fun W hW => ld_at rfl (by kernel_rfl) (by kernel_rfl) (by kernel_rfl) W (hW.2.1)) ⟨tA, xA, hS8⟩ ?_
        refine hx_take (i := 5) (oi := _) (v := .bool false) rfl rfl hns (by kernel_rfl) (by kernel_rfl) hQ (by kernel_rfl) (fun W _ => bin_valT (eqg_atom z_s z_p z_n z_v0 z_v1 z_v2 z_v3 z_l0 z_l1 z_l2 z_l3 c_s c_p c_n c_v0 c_v1 c_v2 c_v3 c_l0 c_l1 c_l2 c_l3 rfl (by kernel_rfl) (by kernel_rfl) W) hq9) ⟨tA, xA, hS8⟩ ?_
        refine wpAnyH_done (by kernel_rfl) ?_ _
        clear hns hQ
        simp only [List.set_cons_zero, List.set_cons_succ]
        clear tA xA
        go_wp2_with fail
        go_roundw
        case rel => exact ⟨q + 1, by omega, by go_num, by rw [hnx.out], hS8⟩
        case measure => simp [intOf]; omega
      case true =>
        have hnx : Hid (atF P ((c_s, c_p, c_n, (c_v0, c_l0), (c_v1, c_l1), (c_v2, c_l2), (c_v3, c_l3)) : Atm) (q + 1) = q) := atF_yes HND.out hqt (by rw [← hzq.out]; exact eqA_iff.1 hq9)
        replace tA := tA.next ((Since.refl w8).drew)
        replace xA := xA.next ((Since.refl w8).drew)
        replace hS8 := hS8.trans ((Since.refl w8).drew)
        refine hx_begin (S := fun W => (At W bs (os + q * 11) #[.string ⟨z_s.toArray⟩, .string ⟨z_p.toArray⟩, .int .i64 z_n, .bool z_v0, .string ⟨z_l0.toArray⟩, .bool z_v1, .string ⟨z_l1.toArray⟩, .bool z_v2, .string ⟨z_l2.toArray⟩, .bool z_v3, .string ⟨z_l3.toArray⟩]) ∧ (At W cb 0 #[.string ⟨c_s.toArray⟩, .string ⟨c_p.toArray⟩, .int .i64 c_n, .bool c_v0, .string ⟨c_l0.toArray⟩, .bool c_v1, .string ⟨c_l1.toArray⟩, .bool c_v2, .string ⟨c_l2.toArray⟩, .bool c_v3, .string ⟨c_l3.toArray⟩]) ∧ (Since w7 W)) (by kernel_rfl) ⟨tA, xA, hS8⟩ (by kernel_rfl) (fun _ _ _ _ _ h => h) (fun hns hQ => ?_)
        refine hx_take (i := 0) (oi := _) (v := .slice (some ⟨bs, os, none⟩) P.length sc) rfl rfl hns (by kernel_rfl) (by kernel_rfl) hQ (by kernel_rfl) (fun _ _ => by kernel_rfl) ⟨tA, xA, hS8⟩ ?_
        refine hx_take (i := 1) (oi := _) (v := .int .i64 (q : Int)) rfl rfl hns (by kernel_rfl) (by kernel_rfl) hQ (by kernel_rfl) (fun _ _ => by kernel_rfl) ⟨tA, xA, hS8⟩ ?_
        refine hx_take (i := 2) (oi := _) (v := .pointer (some ⟨bs, os + q * 11, none⟩)) rfl rfl hns (by kernel_rfl) (by kernel_rfl) hQ (by kernel_rfl) (fun W _ => ix_sl (n := P.length) (c := sc) (K := 11) rfl (by kernel_rfl) (by kernel_rfl) (by kernel_rfl) rfl hqt W) ⟨tA, xA, hS8⟩ ?_
        refine hx_take (i := 3) (oi := _) (v := .agg #[.string ⟨z_s.toArray⟩, .string ⟨z_p.toArray⟩, .int .i64 z_n, .bool z_v0, .string ⟨z_l0.toArray⟩, .bool z_v1, .string ⟨z_l1.toArray⟩, .bool z_v2, .string ⟨z_l2.toArray⟩, .bool z_v3, .string ⟨z_l3.toArray⟩]) rfl rfl hns (by kernel_rfl) (by kernel_rfl) hQ (by kernel_rfl) (fun W hW => ld_at rfl (by kernel_rfl) (by kernel_rfl) (by kernel_rfl) W (hW.1)) ⟨tA, xA, hS8⟩ ?_
        refine hx_take (i := 4) (oi := _) (v := .agg #[.string ⟨c_s.toArray⟩, .string ⟨c_p.toArray⟩, .int .i64 c_n, .bool c_v0, .string ⟨c_l0.toArray⟩, .bool c_v1, .string ⟨c_l1.toArray⟩, .bool c_v2, .string ⟨c_l2.toArray⟩, .bool c_v3, .string ⟨c_l3.toArray⟩]) rfl rfl hns (by kernel_rfl) (by kernel_rfl) hQ (by kernel_rfl) (fun W hW => ld_at rfl (by kernel_rfl) (by kernel_rfl) (by kernel_rfl) W (hW.2.1)) ⟨tA, xA, hS8⟩ ?_
        refine hx_take (i := 5) (oi := _) (v := .bool true) rfl rfl hns (by kernel_rfl) (by kernel_rfl) hQ (by kernel_rfl) (fun W _ => bin_valT (eqg_atom z_s z_p z_n z_v0 z_v1 z_v2 z_v3 z_l0 z_l1 z_l2 z_l3 c_s c_p c_n c_v0 c_v1 c_v2 c_v3 c_l0 c_l1 c_l2 c_l3 rfl (by kernel_rfl) (by kernel_rfl) W) hq9) ⟨tA, xA, hS8⟩ ?_
        refine wpAnyH_done (by kernel_rfl) ?_ _
        clear hns hQ
        simp only [List.set_cons_zero, List.set_cons_succ]
        clear tA xA
        go_wp2_with fail
        go_roundw
        case rel => exact ⟨q + 1, by omega, by go_num, by rw [hnx.out], hS8⟩
        case measure => simp [intOf]; omega
    have hqt2 : ¬ (q : Int) < (P.length : Int) := by omega
    obtain rfl : q = P.length := by omega
    have hC8 := hC7.next hS8
    have hT8 := hT7.next hS8
    have hrow8 := own_since hrow7 hS8
    have hS9 := hS7.trans hS8
    rw [HAF.out]
    clear hS8 hC7 hT7 hrow7 hS7 HAR hq
    have HC8 := Lib.hid hC8
    have e0 : w8.cell? ⟨cb, 0, none⟩ = some (.string ⟨c_s.toArray⟩) := hC8.cell 0
    have e1 : w8.cell? ⟨cb, 1, none⟩ = some (.string ⟨c_p.toArray⟩) := hC8.cell 1
    have e2 : w8.cell? ⟨cb, 2, none⟩ = some (.int .i64 c_n) := hC8.cell 2
    have e3 : w8.cell? ⟨cb, 3, none⟩ = some (.bool c_v0) := hC8.cell 3
    have e4 : w8.cell? ⟨cb, 4, none⟩ = some (.string ⟨c_l0.toArray⟩) := hC8.cell 4
    have e5 : w8.cell? ⟨cb, 5, none⟩ = some (.bool c_v1) := hC8.cell 5
    have e6 : w8.cell? ⟨cb, 6, none⟩ = some (.string ⟨c_l1.toArray⟩) := hC8.cell 6
    have e7 : w8.cell? ⟨cb, 7, none⟩ = some (.bool c_v2) := hC8.cell 7
    have e8 : w8.cell? ⟨cb, 8, none⟩ = some (.string ⟨c_l2.toArray⟩) := hC8.cell 8
    have e9 : w8.cell? ⟨cb, 9, none⟩ = some (.bool c_v3) := hC8.cell 9
    have e10 : w8.cell? ⟨cb, 10, none⟩ = some (.string ⟨c_l3.toArray⟩) := hC8.cell 10
    clear hC8
    cases fr
    case false =>
      obtain ⟨g1, rfl⟩ := HF4.out rfl
      have g2 : ((id : Int) == (P.length : Int)) = false := by have := hPl.out; simp; omega
      rw [← hPl.out] at HLE
      clear g1
      go_wp2_with fail
      refine (HFI.out _ _ hT8).mono ?_
      rintro e w10 ⟨rfl, hb10⟩
      replace hS9 := hS9.trans hb10
      replace hT8 := hT8.next hb10
      replace hrow8 := own_since hrow8 hb10
      have HC10 := Lib.hid (HC8.out.next hb10)
      clear hb10 HC8 e0 e1 e2 e3 e4 e5 e6 e7 e8 e9 e10
      go_wp2_with fail
      refine (HCL.out _ _ hT8).mono ?_
      rintro e w11 ⟨rfl, hb11⟩
      replace hS9 := hS9.trans hb11
      replace hT8 := hT8.next hb11
      replace hrow8 := own_since hrow8 hb11
      have HC11 := Lib.hid (HC10.out.next hb11)
      clear hb11 HC10
      have K12 : Hid (Cel (w11.alloc (.cells #[.string ⟨#[]⟩, .string ⟨#[]⟩, .int .i64 0, .bool false, .string ⟨#[]⟩, .bool false, .string ⟨#[]⟩, .bool false, .string ⟨#[]⟩, .bool false, .string ⟨#[]⟩] 34)) w11.heap.size #[.string ⟨#[]⟩, .string ⟨#[]⟩, .int .i64 0, .bool false, .string ⟨#[]⟩, .bool false, .string ⟨#[]⟩, .bool false, .string ⟨#[]⟩, .bool false, .string ⟨#[]⟩] 34) := heap_alloc_new w11 _
      have hone : Hid (((#[.string ⟨c_s.toArray⟩, .string ⟨c_p.toArray⟩, .int .i64 c_n, .bool c_v0, .string ⟨c_l0.toArray⟩, .bool c_v1, .string ⟨c_l1.toArray⟩, .bool c_v2, .string ⟨c_l2.toArray⟩, .bool c_v3, .string ⟨c_l3.toArray⟩] : Array Value).all (·.oneCell')) = true) := by show _ = _; simp [Value.oneCell']
      go_wp2_with (first | (refine wpList_store_row rfl 34 (.tmp 14) (.tmp 86) rfl w11.heap.size #[.string ⟨c_s.toArray⟩, .string ⟨c_p.toArray⟩, .int .i64 c_n, .bool c_v0, .string ⟨c_l0.toArray⟩, .bool c_v1, .string ⟨c_l1.toArray⟩, .bool c_v2, .string ⟨c_l2.toArray⟩, .bool c_v3, .string ⟨c_l3.toArray⟩] rfl rfl 34 #[.string ⟨#[]⟩, .string ⟨#[]⟩, .int .i64 0, .bool false, .string ⟨#[]⟩, .bool false, .string ⟨#[]⟩, .bool false, .string ⟨#[]⟩, .bool false, .string ⟨#[]⟩] K12.out ainfoC rfl hone.out ?_; have hC12 : Cel ((w11.alloc (.cells #[.string ⟨#[]⟩, .string ⟨#[]⟩, .int .i64 0, .bool false, .string ⟨#[]⟩, .bool false, .string ⟨#[]⟩, .bool false, .string ⟨#[]⟩, .bool false, .string ⟨#[]⟩] 34)).setRow w11.heap.size #[.string ⟨c_s.toArray⟩, .string ⟨c_p.toArray⟩, .int .i64 c_n, .bool c_v0, .string ⟨c_l0.toArray⟩, .bool c_v1, .string ⟨c_l1.toArray⟩, .bool c_v2, .string ⟨c_l2.toArray⟩, .bool c_v3, .string ⟨c_l3.toArray⟩]) w11.heap.size #[.string ⟨c_s.toArray⟩, .string ⟨c_p.toArray⟩, .int .i64 c_n, .bool c_v0, .string ⟨c_l0.toArray⟩, .bool c_v1, .string ⟨c_l1.toArray⟩, .bool c_v2, .string ⟨c_l2.toArray⟩, .bool c_v3, .string ⟨c_l3.toArray⟩] 34 := K12.out.row _; have hS12 : Since w11 ((w11.alloc (.cells #[.string ⟨#[]⟩, .string ⟨#[]⟩, .int .i64 0, .bool false, .string ⟨#[]⟩, .bool false, .string ⟨#[]⟩, .bool false, .string ⟨#[]⟩, .bool false, .string ⟨#[]⟩] 34)).setRow w11.heap.size #[.string ⟨c_s.toArray⟩, .string ⟨c_p.toArray⟩, .int .i64 c_n, .bool c_v0, .string ⟨c_l0.toArray⟩, .bool c_v1, .string ⟨c_l1.toArray⟩, .bool c_v2, .string ⟨c_l2.toArray⟩, .bool c_v3, .string ⟨c_l3.toArray⟩]) := since_setRow ((Since.refl w11).alloc _) (Nat.le_refl _) _; replace hS9 := hS9.trans hS12; replace hT8 := hT8.next hS12; replace hrow8 := own_since hrow8 hS12; have hD12 := HC11.out.next hS12; obtain ⟨db, hdb⟩ : ∃ n, Hid (w11.heap.size = n) := ⟨_, rfl⟩; obtain ⟨w12, hw12⟩ : ∃ n, Hid ((w11.alloc (.cells #[.string ⟨#[]⟩, .string ⟨#[]⟩, .int .i64 0, .bool false, .string ⟨#[]⟩, .bool false, .string ⟨#[]⟩, .bool false, .string ⟨#[]⟩, .bool false, .string ⟨#[]⟩] 34)).setRow w11.heap.size #[.string ⟨c_s.toArray⟩, .string ⟨c_p.toArray⟩, .int .i64 c_n, .bool c_v0, .string ⟨c_l0.toArray⟩, .bool c_v1, .string ⟨c_l1.toArray⟩, .bool c_v2, .string ⟨c_l2.toArray⟩, .bool c_v3, .string ⟨c_l3.toArray⟩] = n) := ⟨_, rfl⟩; rw [hw12.out] at hC12 hD12 hS9 hT8 hrow8; rw [hdb.out] at hC12; rw [hw12.out, hdb.out]; clear hw12 hdb hS12 K12 hone HC11; have e0 : w12.cell? ⟨cb, 0, none⟩ = some (.string ⟨c_s.toArray⟩) := hD12.cell 0; have e1 : w12.cell? ⟨cb, 1, none⟩ = some (.string ⟨c_p.toArray⟩) := hD12.cell 1; have e2 : w12.cell? ⟨cb, 2, none⟩ = some (.int .i64 c_n) := hD12.cell 2; have e3 : w12.cell? ⟨cb, 3, none⟩ = some (.bool c_v0) := hD12.cell 3; have e4 : w12.cell? ⟨cb, 4, none⟩ = some (.string ⟨c_l0.toArray⟩) := hD12.cell 4; have e5 : w12.cell? ⟨cb, 5, none⟩ = some (.bool c_v1) := hD12.cell 5; have e6 : w12.cell? ⟨cb, 6, none⟩ = some (.string ⟨c_l1.toArray⟩) := hD12.cell 6; have e7 : w12.cell? ⟨cb, 7, none⟩ = some (.bool c_v2) := hD12.cell 7; have e8 : w12.cell? ⟨cb, 8, none⟩ = some (.string ⟨c_l2.toArray⟩) := hD12.cell 8; have e9 : w12.cell? ⟨cb, 9, none⟩ = some (.bool c_v3) := hD12.cell 9; have e10 : w12.cell? ⟨cb, 10, none⟩ = some (.string ⟨c_l3.toArray⟩) := hD12.cell 10; have d0 : w12.cell? ⟨db, 0, none⟩ = some (.string ⟨c_s.toArray⟩) := hC12.cell 0; have d1 : w12.cell? ⟨db, 1, none⟩ = some (.string ⟨c_p.toArray⟩) := hC12.cell 1; have d2 : w12.cell? ⟨db, 2, none⟩ = some (.int .i64 c_n) := hC12.cell 2; have d3 : w12.cell? ⟨db, 3, none⟩ = some (.bool c_v0) := hC12.cell 3; have d4 : w12.cell? ⟨db, 4, none⟩ = some (.string ⟨c_l0.toArray⟩) := hC12.cell 4; have d5 : w12.cell? ⟨db, 5, none⟩ = some (.bool c_v1) := hC12.cell 5; have d6 : w12.cell? ⟨db, 6, none⟩ = some (.string ⟨c_l1.toArray⟩) := hC12.cell 6; have d7 : w12.cell? ⟨db, 7, none⟩ = some (.bool c_v2) := hC12.cell 7; have d8 : w12.cell? ⟨db, 8, none⟩ = some (.string ⟨c_l2.toArray⟩) := hC12.cell 8; have d9 : w12.cell? ⟨db, 9, none⟩ = some (.bool c_v3) := hC12.cell 9; have d10 : w12.cell? ⟨db, 10, none⟩ = some (.string ⟨c_l3.toArray⟩) := hC12.cell 10; clear hC12 hD12) | (go_at_call 14; refine (HLE.out _ _ hT8).mono ?_; rintro e w13 ⟨rfl, hb13⟩))
      go_roundw
      case rel => exact ⟨k + 1, _, P, _, by omega, by go_num, hS9.trans hb13, hT8.next hb13, own_since hrow8 hb13, hzz, hP, hPl, by omega⟩
      case measure => simp [intOf]; omega
    case true =>
      obtain ⟨g1, rfl⟩ := HF3.out rfl
      have g2 : ((id : Int) == (P.length : Int)) = true := by have := hPl.out; simp; omega
      obtain ⟨N9, hN9⟩ : ∃ n, Hid (n = P.length + 1) := ⟨P.length + 1, rfl⟩
      rw [show (S ++ [((((c_s, c_p, c_n, (c_v0, c_l0), (c_v1, c_l1), (c_v2, c_l2), (c_v3, c_l3)) : Atm), [], []) : TCall)]).length = N9 by rw [hN9.out, List.length_append, hPl.out]; rfl] at HLE
      have HP2 : Hid (P ++ [((c_s, c_p, c_n, (c_v0, c_l0), (c_v1, c_l1), (c_v2, c_l2), (c_v3, c_l3)) : Atm)] = (S ++ [((((c_s, c_p, c_n, (c_v0, c_l0), (c_v1, c_l1), (c_v2, c_l2), (c_v3, c_l3)) : Atm), [], []) : TCall)]).map fun c => c.1) := by show _ = _; rw [List.map_append, ← hP.out]; rfl
      have HPL2 : Hid ((P ++ [((c_s, c_p, c_n, (c_v0, c_l0), (c_v1, c_l1), (c_v2, c_l2), (c_v3, c_l3)) : Atm)]).length = (S ++ [((((c_s, c_p, c_n, (c_v0, c_l0), (c_v1, c_l1), (c_v2, c_l2), (c_v3, c_l3)) : Atm), [], []) : TCall)]).length) := by show _ = _; rw [List.length_append, List.length_append, hPl.out]; rfl
      have hp40 := hPk
      clear g1
      go_wp2_with (at_builtin; refine wpList_append_own_at _ rfl (.tmp 72) (.tmp 74) 22 rfl w.heap.size 34 i5 (.agg #[.string ByteArray.empty, .string ByteArray.empty, .int .i64 0, .bool false, .string ByteArray.empty, .bool false, .string ByteArray.empty, .bool false, .string ByteArray.empty, .bool false, .string ByteArray.empty]) 11 136 Tryd.underlying22 I5.out.1 I5.out.2.1 I5.out.2.2.1 I5.out.2.2.2 rfl (by decide) _ P.length (P.flatMap atmL) rfl (hrow8.alloc _) ⟨w8.heap.size, 0, none⟩ 1 1 (#[.string ⟨c_s.toArray⟩, .string ⟨c_p.toArray⟩, .int .i64 c_n, .bool c_v0, .string ⟨c_l0.toArray⟩, .bool c_v1, .string ⟨c_l1.toArray⟩, .bool c_v2, .string ⟨c_l2.toArray⟩, .bool c_v3, .string ⟨c_l3.toArray⟩] : Array Value).toList rfl rfl (cells_row1 _ _ _) (by simp [Value.oneCell']) (by unfold maxLen; omega) (by omega) (by have := hS9.size; simp; omega) ?_; intro v9 w9 hown9 hg9 _ hat9; obtain ⟨a9, c9, k9⟩ : ∃ a k, v9 = .slice a (P.length + 1) k := own_slice hown9; rw [← hN9.out] at k9; subst k9; have hx9 := once_tail (c := ((c_s, c_p, c_n, (c_v0, c_l0), (c_v1, c_l1), (c_v2, c_l2), (c_v3, c_l3)) : Atm)) hT8 hS9 hrow8 HC8.out hzz HCR.out hg9 hown9 rfl hat9; clear hown9 hg9 hat9 hT8 hS9 hrow8 hzz HC8 e0 e1 e2 e3 e4 e5 e6 e7 e8 e9 e10; obtain ⟨hT8, hS9, hrow8, hC9, hzz⟩ := hx9; have HC8 := Lib.hid hC9; have e0 : w9.cell? ⟨cb, 0, none⟩ = some (.string ⟨c_s.toArray⟩) := hC9.cell 0; have e1 : w9.cell? ⟨cb, 1, none⟩ = some (.string ⟨c_p.toArray⟩) := hC9.cell 1; have e2 : w9.cell? ⟨cb, 2, none⟩ = some (.int .i64 c_n) := hC9.cell 2; have e3 : w9.cell? ⟨cb, 3, none⟩ = some (.bool c_v0) := hC9.cell 3; have e4 : w9.cell? ⟨cb, 4, none⟩ = some (.string ⟨c_l0.toArray⟩) := hC9.cell 4; have e5 : w9.cell? ⟨cb, 5, none⟩ = some (.bool c_v1) := hC9.cell 5; have e6 : w9.cell? ⟨cb, 6, none⟩ = some (.string ⟨c_l1.toArray⟩) := hC9.cell 6; have e7 : w9.cell? ⟨cb, 7, none⟩ = some (.bool c_v2) := hC9.cell 7; have e8 : w9.cell? ⟨cb, 8, none⟩ = some (.string ⟨c_l2.toArray⟩) := hC9.cell 8; have e9 : w9.cell? ⟨cb, 9, none⟩ = some (.bool c_v3) := hC9.cell 9; have e10 : w9.cell? ⟨cb, 10, none⟩ = some (.string ⟨c_l3.toArray⟩) := hC9.cell 10; clear hC9)
      refine (HFI.out _ _ hT8).mono ?_
      rintro e w10 ⟨rfl, hb10⟩
      replace hS9 := hS9.trans hb10
      replace hT8 := hT8.next hb10
      replace hrow8 := own_since hrow8 hb10
      have HC10 := Lib.hid (HC8.out.next hb10)
      clear hb10 HC8 e0 e1 e2 e3 e4 e5 e6 e7 e8 e9 e10
      go_wp2_with fail
      refine (HCL.out _ _ hT8).mono ?_
      rintro e w11 ⟨rfl, hb11⟩
      replace hS9 := hS9.trans hb11
      replace hT8 := hT8.next hb11
      replace hrow8 := own_since hrow8 hb11
      have HC11 := Lib.hid (HC10.out.next hb11)
      clear hb11 HC10
      have K12 : Hid (Cel (w11.alloc (.cells #[.string ⟨#[]⟩, .string ⟨#[]⟩, .int .i64 0, .bool false, .string ⟨#[]⟩, .bool false, .string ⟨#[]⟩, .bool false, .string ⟨#[]⟩, .bool false, .string ⟨#[]⟩] 34)) w11.heap.size #[.string ⟨#[]⟩, .string ⟨#[]⟩, .int .i64 0, .bool false, .string ⟨#[]⟩, .bool false, .string ⟨#[]⟩, .bool false, .string ⟨#[]⟩, .bool false, .string ⟨#[]⟩] 34) := heap_alloc_new w11 _
      have hone : Hid (((#[.string ⟨c_s.toArray⟩, .string ⟨c_p.toArray⟩, .int .i64 c_n, .bool c_v0, .string ⟨c_l0.toArray⟩, .bool c_v1, .string ⟨c_l1.toArray⟩, .bool c_v2, .string ⟨c_l2.toArray⟩, .bool c_v3, .string ⟨c_l3.toArray⟩] : Array Value).all (·.oneCell')) = true) := by show _ = _; simp [Value.oneCell']
      go_wp2_with (first | (refine wpList_store_row rfl 34 (.tmp 14) (.tmp 86) rfl w11.heap.size #[.string ⟨c_s.toArray⟩, .string ⟨c_p.toArray⟩, .int .i64 c_n, .bool c_v0, .string ⟨c_l0.toArray⟩, .bool c_v1, .string ⟨c_l1.toArray⟩, .bool c_v2, .string ⟨c_l2.toArray⟩, .bool c_v3, .string ⟨c_l3.toArray⟩] rfl rfl 34 #[.string ⟨#[]⟩, .string ⟨#[]⟩, .int .i64 0, .bool false, .string ⟨#[]⟩, .bool false, .string ⟨#[]⟩, .bool false, .string ⟨#[]⟩, .bool false, .string ⟨#[]⟩] K12.out ainfoC rfl hone.out ?_; have hC12 : Cel ((w11.alloc (.cells #[.string ⟨#[]⟩, .string ⟨#[]⟩, .int .i64 0, .bool false, .string ⟨#[]⟩, .bool false, .string ⟨#[]⟩, .bool false, .string ⟨#[]⟩, .bool false, .string ⟨#[]⟩] 34)).setRow w11.heap.size #[.string ⟨c_s.toArray⟩, .string ⟨c_p.toArray⟩, .int .i64 c_n, .bool c_v0, .string ⟨c_l0.toArray⟩, .bool c_v1, .string ⟨c_l1.toArray⟩, .bool c_v2, .string ⟨c_l2.toArray⟩, .bool c_v3, .string ⟨c_l3.toArray⟩]) w11.heap.size #[.string ⟨c_s.toArray⟩, .string ⟨c_p.toArray⟩, .int .i64 c_n, .bool c_v0, .string ⟨c_l0.toArray⟩, .bool c_v1, .string ⟨c_l1.toArray⟩, .bool c_v2, .string ⟨c_l2.toArray⟩, .bool c_v3, .string ⟨c_l3.toArray⟩] 34 := K12.out.row _; have hS12 : Since w11 ((w11.alloc (.cells #[.string ⟨#[]⟩, .string ⟨#[]⟩, .int .i64 0, .bool false, .string ⟨#[]⟩, .bool false, .string ⟨#[]⟩, .bool false, .string ⟨#[]⟩, .bool false, .string ⟨#[]⟩] 34)).setRow w11.heap.size #[.string ⟨c_s.toArray⟩, .string ⟨c_p.toArray⟩, .int .i64 c_n, .bool c_v0, .string ⟨c_l0.toArray⟩, .bool c_v1, .string ⟨c_l1.toArray⟩, .bool c_v2, .string ⟨c_l2.toArray⟩, .bool c_v3, .string ⟨c_l3.toArray⟩]) := since_setRow ((Since.refl w11).alloc _) (Nat.le_refl _) _; replace hS9 := hS9.trans hS12; replace hT8 := hT8.next hS12; replace hrow8 := own_since hrow8 hS12; have hD12 := HC11.out.next hS12; obtain ⟨db, hdb⟩ : ∃ n, Hid (w11.heap.size = n) := ⟨_, rfl⟩; obtain ⟨w12, hw12⟩ : ∃ n, Hid ((w11.alloc (.cells #[.string ⟨#[]⟩, .string ⟨#[]⟩, .int .i64 0, .bool false, .string ⟨#[]⟩, .bool false, .string ⟨#[]⟩, .bool false, .string ⟨#[]⟩, .bool false, .string ⟨#[]⟩] 34)).setRow w11.heap.size #[.string ⟨c_s.toArray⟩, .string ⟨c_p.toArray⟩, .int .i64 c_n, .bool c_v0, .string ⟨c_l0.toArray⟩, .bool c_v1, .string ⟨c_l1.toArray⟩, .bool c_v2, .string ⟨c_l2.toArray⟩, .bool c_v3, .string ⟨c_l3.toArray⟩] = n) := ⟨_, rfl⟩; rw [hw12.out] at hC12 hD12 hS9 hT8 hrow8; rw [hdb.out] at hC12; rw [hw12.out, hdb.out]; clear hw12 hdb hS12 K12 hone HC11; have e0 : w12.cell? ⟨cb, 0, none⟩ = some (.string ⟨c_s.toArray⟩) := hD12.cell 0; have e1 : w12.cell? ⟨cb, 1, none⟩ = some (.string ⟨c_p.toArray⟩) := hD12.cell 1; have e2 : w12.cell? ⟨cb, 2, none⟩ = some (.int .i64 c_n) := hD12.cell 2; have e3 : w12.cell? ⟨cb, 3, none⟩ = some (.bool c_v0) := hD12.cell 3; have e4 : w12.cell? ⟨cb, 4, none⟩ = some (.string ⟨c_l0.toArray⟩) := hD12.cell 4; have e5 : w12.cell? ⟨cb, 5, none⟩ = some (.bool c_v1) := hD12.cell 5; have e6 : w12.cell? ⟨cb, 6, none⟩ = some (.string ⟨c_l1.toArray⟩) := hD12.cell 6; have e7 : w12.cell? ⟨cb, 7, none⟩ = some (.bool c_v2) := hD12.cell 7; have e8 : w12.cell? ⟨cb, 8, none⟩ = some (.string ⟨c_l2.toArray⟩) := hD12.cell 8; have e9 : w12.cell? ⟨cb, 9, none⟩ = some (.bool c_v3) := hD12.cell 9; have e10 : w12.cell? ⟨cb, 10, none⟩ = some (.string ⟨c_l3.toArray⟩) := hD12.cell 10; have d0 : w12.cell? ⟨db, 0, none⟩ = some (.string ⟨c_s.toArray⟩) := hC12.cell 0; have d1 : w12.cell? ⟨db, 1, none⟩ = some (.string ⟨c_p.toArray⟩) := hC12.cell 1; have d2 : w12.cell? ⟨db, 2, none⟩ = some (.int .i64 c_n) := hC12.cell 2; have d3 : w12.cell? ⟨db, 3, none⟩ = some (.bool c_v0) := hC12.cell 3; have d4 : w12.cell? ⟨db, 4, none⟩ = some (.string ⟨c_l0.toArray⟩) := hC12.cell 4; have d5 : w12.cell? ⟨db, 5, none⟩ = some (.bool c_v1) := hC12.cell 5; have d6 : w12.cell? ⟨db, 6, none⟩ = some (.string ⟨c_l1.toArray⟩) := hC12.cell 6; have d7 : w12.cell? ⟨db, 7, none⟩ = some (.bool c_v2) := hC12.cell 7; have d8 : w12.cell? ⟨db, 8, none⟩ = some (.string ⟨c_l2.toArray⟩) := hC12.cell 8; have d9 : w12.cell? ⟨db, 9, none⟩ = some (.bool c_v3) := hC12.cell 9; have d10 : w12.cell? ⟨db, 10, none⟩ = some (.string ⟨c_l3.toArray⟩) := hC12.cell 10; clear hC12 hD12) | (go_at_call 14; refine (HLE.out _ _ hT8).mono ?_; rintro e w13 ⟨rfl, hb13⟩))
      go_roundw
      case rel => exact ⟨k + 1, _, P ++ [((c_s, c_p, c_n, (c_v0, c_l0), (c_v1, c_l1), (c_v2, c_l2), (c_v3, c_l3)) : Atm)], _, by omega, by go_num, hS9.trans hb13, hT8.next hb13, own_since hrow8 hb13, hzz, HP2, HPL2, by rw [List.length_append, List.length_singleton]; omega⟩
      case measure => simp [intOf]; omega
  · have hlt2 : ¬ (k : Int) < (L.length : Int) := by omega
    go_wp2_with fail
    go_ret
    exact ⟨rfl, hS⟩
end Go.Proofs.YtbgdljcgbhhfdaaDoor
