/- ParseParts of law 10: the walk. -/
import Derived.Test.YtnfjjckbgnieeaaGreatDoorVPOw
import Derived.Test.YtnfjjckbgnieeaaGreatDoorVParR
import Derived.Test.YtnfjjckbgnieeaaGreatDoorVPTs
namespace Go.Proofs.YtnfjjckbgnieeaaGreatDoor
open Go.RowKit
attribute [local go_sem ↓] run_termEq' run_atomEq
attribute [local go_sem] eqA_self eqT_self

theorem reads_next {W W' : World} {B K n : Nat} {a : Option Addr} {xs : List Value} (h : Reads W B K a n xs) (hs : Since W W') : Reads W' B K a n xs :=
  ⟨h.1, fun h0 => by
    obtain ⟨ad, e, hb, hc⟩ := h.2 h0
    exact ⟨ad, e, hb, fun j u hu => hs.cell (hc j u hu)⟩⟩
theorem at_subP {W : World} {g o : Nat} {cs : Array Value} (h : At W g o cs) (d n : Nat) : At W g (o + d) ((cs.toList.drop d).take n).toArray := by
  intro j u hu
  rw [List.getElem?_toArray, List.getElem?_take] at hu
  split at hu
  · rw [List.getElem?_drop, Array.getElem?_toList] at hu
    have := h (d + j) u hu
    rwa [← Nat.add_assoc] at this
  · cases hu
theorem since_setRowP {w W : World} {B : Nat} (h : Since w W) (hB : w.heap.size ≤ B) (cs : Array Value) : Since w (W.setRow B cs) :=
  Below.grown h (row := some B) ⟨rfl, rfl, rfl, by simp, fun k hk hne => setRow_other W B k cs (fun e => hne (by rw [e]))⟩ h.size (fun k hk => by injection hk with hk; omega)
theorem st_rowP {P : Program} {o : Oper} {x y : Operand} {ev : Operand → Value} {ty T : TypeId} {g : Nat} {cells old : Array Value} (ho : o.op = Op.store ty x y) (hx : ev x = .pointer (some ⟨g, 0, none⟩)) (hy : ev y = .agg cells) (hi : (P.info? ty).map (·.size) = some cells.size) (hs : old.size = cells.size) (h1 : cells.all (·.oneCell') = true) (W : World) (h : Cel W g old T) :
    (execOp ev o).run P W = .ok .skip (W.setRow g cells) := by
  simp only [execOp, ho, hx, hy, Instr.storeAt, Instr.sureAddr, Sem.run_bind, Sem.run_pure, Result.andThen_ok, run_storeVar_row W g T ty old cells h hi hs h1]
theorem nest_one {α : Type} {W : World} {B K1 K2 : Nat} {e1 e2 : TypeId} {c : α → Value → List Value} {cnt : α → Nat} {inn : α → List Value} {v : Value} {L : List (α × Value)} (h : NestR W B e1 K1 c e2 K2 cnt inn v L) (hc : ∀ x a n k, ∀ u ∈ c x (.slice a n k), u.oneCell' = true) : ∀ u ∈ L.flatMap (fun p => c p.1 p.2), u.oneCell' = true := by
  intro u hu
  obtain ⟨p, hp, hu⟩ := List.mem_flatMap.1 hu
  obtain ⟨a, k, e⟩ := own_slice (h.ins p hp)
  rw [e] at hu
  exact hc _ _ _ _ u hu
theorem nest_both {α : Type} {w0 W : World} {D1 D2 B K1 K2 n1 n2 : Nat} {e1 e2 : TypeId} {c : α → Value → List Value} {cnt : α → Nat} {inn : α → List Value} {v1 v2 v : Value} {L1 L2 : List (α × Value)} (h1 : NestR w0 D1 e1 K1 c e2 K2 cnt inn v1 L1) (h2 : NestR w0 D2 e1 K1 c e2 K2 cnt inn v2 L2) (hs : Since w0 W) (l1 : L1.length = n1) (l2 : L2.length = n2)
    (r : W.ownsRow B e1 K1 v (n1 + n2) (L1.flatMap (fun p => c p.1 p.2) ++ L2.flatMap (fun p => c p.1 p.2))) : NestR W 0 e1 K1 c e2 K2 cnt inn v (L1 ++ L2) := by
  refine ⟨?_, fun p hp => ?_⟩
  · rw [List.length_append, List.flatMap_append, l1, l2]
    exact own_base r (Nat.zero_le _)
  · rcases List.mem_append.1 hp with hp | hp
    · exact own_base (own_since (h1.ins p hp) hs) (Nat.zero_le _)
    · exact own_base (own_since (h2.ins p hp) hs) (Nat.zero_le _)
theorem prd_lens {W : World} {D : Nat} {c3 c4 c5 c6 c7 c8 c9 : Value} {P : Pol} {C : List (Clr × Value)} {U : List (Rul × Value)} {G : List (Grn × Value)} (h : PRd W D c3 c4 c5 c6 c7 c8 c9 P C U G) : C.length = P.cl.length ∧ U.length = P.ru.length ∧ G.length = P.gr.length := by
  refine ⟨?_, ?_, ?_⟩
  · rw [← h.eC, List.length_map]
  · rw [← h.eU, List.length_map]
  · rw [← h.eG, List.length_map]
/-- What the appends need of two policies, and what they give. -/
theorem two_rows {w0 : World} {D1 D2 : Nat} {c3 c4 c5 c6 c7 c8 c9 d3 d4 d5 d6 d7 d8 d9 : Value} {P1 P2 : Pol} {C1 C2 : List (Clr × Value)} {U1 U2 : List (Rul × Value)} {G1 G2 : List (Grn × Value)} (h1 : PRd w0 D1 c3 c4 c5 c6 c7 c8 c9 P1 C1 U1 G1) (h2 : PRd w0 D2 d3 d4 d5 d6 d7 d8 d9 P2 C2 U2 G2) :
    ∃ X3 X4 X5 X8 X9 Y3 Y4 Y5 Y8 Y9 : List Value, (w0.ownsRow D1 9 1 c3 P1.pr.length X3 ∧ w0.ownsRow D1 36 2 c4 P1.pd.length X4 ∧ w0.ownsRow D1 38 2 c5 P1.cl.length X5 ∧ w0.ownsRow D1 47 12 c8 P1.ru.length X8 ∧ w0.ownsRow D1 49 13 c9 P1.gr.length X9) ∧ (w0.ownsRow D2 9 1 d3 P2.pr.length Y3 ∧ w0.ownsRow D2 36 2 d4 P2.pd.length Y4 ∧ w0.ownsRow D2 38 2 d5 P2.cl.length Y5 ∧ w0.ownsRow D2 47 12 d8 P2.ru.length Y8 ∧ w0.ownsRow D2 49 13 d9 P2.gr.length Y9) ∧ ((∀ u ∈ X3, u.oneCell' = true) ∧ (∀ u ∈ X4, u.oneCell' = true) ∧ (∀ u ∈ X5, u.oneCell' = true) ∧ (∀ u ∈ X8, u.oneCell' = true) ∧ (∀ u ∈ X9, u.oneCell' = true)) ∧ ((∀ u ∈ Y3, u.oneCell' = true) ∧ (∀ u ∈ Y4, u.oneCell' = true) ∧ (∀ u ∈ Y5, u.oneCell' = true) ∧ (∀ u ∈ Y8, u.oneCell' = true) ∧ (∀ u ∈ Y9, u.oneCell' = true)) ∧
      ∀ (W : World) (B : Nat) (v3 v4 v5 v8 v9 : Value), Since w0 W → W.ownsRow B 9 1 v3 (P1.pr.length + P2.pr.length) (X3 ++ Y3) → W.ownsRow B 36 2 v4 (P1.pd.length + P2.pd.length) (X4 ++ Y4) → W.ownsRow B 38 2 v5 (P1.cl.length + P2.cl.length) (X5 ++ Y5) → W.ownsRow B 47 12 v8 (P1.ru.length + P2.ru.length) (X8 ++ Y8) → W.ownsRow B 49 13 v9 (P1.gr.length + P2.gr.length) (X9 ++ Y9) → ∃ C U G, PRd W 0 v3 v4 v5 (.int .i64 (max P1.qu P2.qu)) (.int .i64 (max P1.bu P2.bu)) v8 v9 (bothP P1 P2) C U G := by
  obtain ⟨l1, l2, l3⟩ := prd_lens h1
  obtain ⟨m1, m2, m3⟩ := prd_lens h2
  have o1 : ∀ x : Txt, ∀ u ∈ txtL x, u.oneCell' = true := by simp [txtL, Value.oneCell']
  have o2 : ∀ x : Txt × Int, ∀ u ∈ prdL x, u.oneCell' = true := by simp [prdL, Value.oneCell']
  have o3 : ∀ (x : Clr) a n k, ∀ u ∈ clrC x (.slice a n k), u.oneCell' = true := by simp [clrC, Value.oneCell']
  have o4 : ∀ (x : Rul) a n k, ∀ u ∈ rulC x (.slice a n k), u.oneCell' = true := by simp [rulC, atmC, Value.oneCell']
  have o5 : ∀ (x : Grn) a n k, ∀ u ∈ grnC x (.slice a n k), u.oneCell' = true := by simp [grnC, atmC, Value.oneCell']
  refine ⟨P1.pr.flatMap txtL, P1.pd.flatMap prdL, C1.flatMap (fun p => clrC p.1 p.2), U1.flatMap (fun p => rulC p.1 p.2), G1.flatMap (fun p => grnC p.1 p.2), P2.pr.flatMap txtL, P2.pd.flatMap prdL, C2.flatMap (fun p => clrC p.1 p.2), U2.flatMap (fun p => rulC p.1 p.2), G2.flatMap (fun p => grnC p.1 p.2), ⟨h1.pr, h1.pd, l1 ▸ h1.cl.row, l2 ▸ h1.ru.row, l3 ▸ h1.gr.row⟩, ⟨h2.pr, h2.pd, m1 ▸ h2.cl.row, m2 ▸ h2.ru.row, m3 ▸ h2.gr.row⟩, ⟨flat_oneK o1 _, flat_oneK o2 _, nest_one h1.cl o3, nest_one h1.ru o4, nest_one h1.gr o5⟩, ⟨flat_oneK o1 _, flat_oneK o2 _, nest_one h2.cl o3, nest_one h2.ru o4, nest_one h2.gr o5⟩, ?_⟩
  intro W B v3 v4 v5 v8 v9 hs r3 r4 r5 r8 r9
  refine ⟨C1 ++ C2, U1 ++ U2, G1 ++ G2, ?_, ?_, nest_both h1.cl h2.cl hs l1 m1 r5, nest_both h1.ru h2.ru hs l2 m2 r8, nest_both h1.gr h2.gr hs l3 m3 r9, ?_, ?_, ?_, rfl, rfl⟩
  · show W.ownsRow 0 9 1 v3 (P1.pr ++ P2.pr).length ((P1.pr ++ P2.pr).flatMap txtL)
    rw [List.length_append, List.flatMap_append]
    exact own_base r3 (Nat.zero_le _)
  · show W.ownsRow 0 36 2 v4 (P1.pd ++ P2.pd).length ((P1.pd ++ P2.pd).flatMap prdL)
    rw [List.length_append, List.flatMap_append]
    exact own_base r4 (Nat.zero_le _)
  · rw [List.map_append, h1.eC, h2.eC]; rfl
  · rw [List.map_append, h1.eU, h2.eU]; rfl
  · rw [List.map_append, h1.eG, h2.eG]; rfl
set_option maxHeartbeats 1000000 in
set_option maxRecDepth 100000 in
theorem eqg_sameAP {o : Oper} {x y : Operand} {ev : Operand → Value} (a_s a_p : List UInt8) (a_n : Int) (a_v0 a_v1 a_v2 a_v3 : Bool) (a_l0 a_l1 a_l2 a_l3 : List UInt8) (ho : o.op = Op.binOp .eql 44 x y 44) (hx : ev x = .agg #[.string ⟨a_s.toArray⟩, .string ⟨a_p.toArray⟩, .int .i64 a_n, .bool a_v0, .string ⟨a_l0.toArray⟩, .bool a_v1, .string ⟨a_l1.toArray⟩, .bool a_v2, .string ⟨a_l2.toArray⟩, .bool a_v3, .string ⟨a_l3.toArray⟩]) (hy : ev y = .agg #[.string ⟨a_s.toArray⟩, .string ⟨a_p.toArray⟩, .int .i64 a_n, .bool a_v0, .string ⟨a_l0.toArray⟩, .bool a_v1, .string ⟨a_l1.toArray⟩, .bool a_v2, .string ⟨a_l2.toArray⟩, .bool a_v3, .string ⟨a_l3.toArray⟩]) (W : World) :
    (execOp ev o).run Tryz.prog W = .ok (.value (.bool true)) W := by
  simp only [execOp, ho]
  go_simp
/-- The one rule of what was parsed of an atom and a stop. -/
theorem one_rule {W : World} {D : Nat} {c3 c4 c5 c6 c7 c8 c9 : Value} {a : Atm} {C : List (Clr × Value)} {U : List (Rul × Value)} {G : List (Grn × Value)} (h : POwn W D c3 c4 c5 c6 c7 c8 c9 { pol0 with ru := [(a, [])] } C U G) :
    ∃ rb ro rc ua uc, c8 = .slice (some ⟨rb, ro, none⟩) 1 rc ∧ 1 ≤ rc ∧ At W rb (ro + 0 * 12) ((atmC a).toList ++ [Value.slice ua 0 uc]).toArray := by
  have e := h.eU
  have hr := h.prd.ru
  match U, e, hr with
  | [(x, u)], e, hr =>
    have e2 : x = (a, []) := by simpa using e
    subst e2
    obtain ⟨ua, uc, e3⟩ := own_slice (hr.ins _ (List.mem_singleton.2 rfl))
    have e4 : u = .slice ua 0 uc := e3
    subst e4
    obtain ⟨rb, ro, rc, e5, h5, h6⟩ := own_atk (f := fun p : Rul × Value => rulC p.1 p.2) hr.row (by decide) (fun p => by simp [rulC, atmC]) (k := 0) (by simp)
    exact ⟨rb, ro, rc, ua, uc, e5, h5, h6⟩
set_option maxHeartbeats 16000000 in
set_option maxRecDepth 100000 in
theorem pparts_any (s t : Txt) (w : World) (hE : EnvT w) :
    Calls Tryz.prog 9 #[.string ⟨s.toArray⟩, .string ⟨t.toArray⟩] w fun e w' => e = .returned (.bool true) ∧ Since w w' := by
  obtain ⟨K, hK⟩ : ∃ K : Ending → World → Prop, Hid (K = fun e w' => e = .returned (.bool true) ∧ Since w w') := ⟨_, rfl⟩
  have hgood : Hid (∀ w', Since w w' → K (.returned (.bool true)) w') := fun w' h => by rw [hK.out]; exact ⟨rfl, h⟩
  rw [← hK.out]
  have HL : Hid (Calls Tryz.prog 10 #[] w fun e w' => e = .returned (.bool true) ∧ Since w w') := lives10_any w hE
  obtain ⟨n, hn⟩ : ∃ n : Nat, Hid (s.length = n) := ⟨_, rfl⟩
  have hn2 := hn.out
  obtain ⟨m, hm⟩ : ∃ m : Nat, Hid (t.length = m) := ⟨_, rfl⟩
  have hm2 := hm.out
  have HEE := Lib.hid hE
  clear hE hK
  go_enter Tryz.func9, Tryz.ntmps9
  go_wp2_with fail
  refine HL.out.mono ?_
  rintro e w4 ⟨rfl, hS4⟩
  clear HL
  by_cases gn : (1500 : Int) < (n : Int)
  · go_wp2_with fail
    exact hgood.out _ hS4
  by_cases gm : (1500 : Int) < (m : Int)
  · go_wp2_with fail
    exact hgood.out _ hS4
  have hE := HEE.out
  have hsn : s.length ≤ 1500 := by omega
  have hsm : t.length ≤ 1500 := by omega
  obtain ⟨u, hu⟩ : ∃ u, Hid (s ++ 10 :: t = u) := ⟨s ++ 10 :: t, rfl⟩
  obtain ⟨u0, hu0⟩ : ∃ u, Hid (s ++ [10] = u) := ⟨s ++ [10], rfl⟩
  obtain ⟨u1, hu1⟩ : ∃ u, Hid (s ++ [10, 63] = u) := ⟨s ++ [10, 63], rfl⟩
  obtain ⟨u2, hu2⟩ : ∃ u, Hid (s ++ [10, 46] = u) := ⟨s ++ [10, 46], rfl⟩
  have hul : u.length ≤ 3001 := by rw [← hu.out, List.length_append, List.length_cons]; omega
  have hu0l : u0.length ≤ 1501 := by rw [← hu0.out, List.length_append, List.length_cons, List.length_nil]; omega
  have hu1l : u1.length ≤ 1502 := by rw [← hu1.out, List.length_append]; simp; omega
  have hu2l : u2.length ≤ 1502 := by rw [← hu2.out, List.length_append]; simp; omega
  have hu3 : u0 ++ t = u := by rw [← hu0.out, ← hu.out, List.append_assoc]; rfl
  have q1 : ∀ W, (Op.stringOp .add ⟨s.toArray⟩ ⟨#[10]⟩).run Tryz.prog W = .ok (.string ⟨u0.toArray⟩) W := cat_run2 (b := [10]) hu0.out (by omega)
  have q2 : ∀ W, (Op.stringOp .add ⟨u0.toArray⟩ ⟨t.toArray⟩).run Tryz.prog W = .ok (.string ⟨u.toArray⟩) W := cat_run2 hu3 (by omega)
  have q3 : ∀ W, (Op.stringOp .add ⟨s.toArray⟩ ⟨#[10, 63]⟩).run Tryz.prog W = .ok (.string ⟨u1.toArray⟩) W := cat_run2 (b := [10, 63]) hu1.out (by omega)
  have q4 : ∀ W, (Op.stringOp .add ⟨s.toArray⟩ ⟨#[10, 46]⟩).run Tryz.prog W = .ok (.string ⟨u2.toArray⟩) W := cat_run2 (b := [10, 46]) hu2.out (by omega)
  have ml : ∀ k : Nat, k ≤ 3001 → k ≤ maxLen := fun k h => by unfold maxLen; omega
  have HPO : Hid (∀ x : Txt, x.length ≤ 3001 → ∀ W, Since w W → Calls Tryz.prog 11 #[.string ⟨x.toArray⟩] W (PolPost x W)) := fun x hx W h => policy_any x (ml _ hx) W (hE.next h)
  have HP1 : Hid (∀ W, Since w W → Calls Tryz.prog 11 #[.string ⟨s.toArray⟩] W (PolPost s W)) := HPO.out s (by omega)
  have HP2 : Hid (∀ W, Since w W → Calls Tryz.prog 11 #[.string ⟨t.toArray⟩] W (PolPost t W)) := HPO.out t (by omega)
  have HP3 : Hid (∀ W, Since w W → Calls Tryz.prog 11 #[.string ⟨u.toArray⟩] W (PolPost u W)) := HPO.out u (by omega)
  have HP4 : Hid (∀ W, Since w W → Calls Tryz.prog 11 #[.string ⟨u2.toArray⟩] W (PolPost u2 W)) := HPO.out u2 (by omega)
  have HG1 := Lib.hid (fun W (h : Since w W) => pub_goal_any u1 (ml _ (by omega)) W (hE.next h))
  have HA1 := Lib.hid (fun W (h : Since w W) => pub_atom_any s (ml _ (by omega)) W (hE.next h))
  unfold PolPost at HP1 HP2 HP3 HP4
  have hpq := @parts_policy s t (by rw [hu.out]; omega)
  have hon := @parts_one s (by omega)
  have hLs := @policy_len s (by omega)
  have hLt := @policy_len t (by omega)
  rw [hu.out] at hpq
  rw [hu1.out, hu2.out] at hon
  obtain ⟨R1, hR1⟩ : ∃ R, Hid (R = policyL s) := ⟨_, rfl⟩
  obtain ⟨R2, hR2⟩ : ∃ R, Hid (R = policyL t) := ⟨_, rfl⟩
  obtain ⟨R3, hR3⟩ : ∃ R, Hid (R = policyL u) := ⟨_, rfl⟩
  obtain ⟨R4, hR4⟩ : ∃ R, Hid (R = policyL u2) := ⟨_, rfl⟩
  obtain ⟨R5, hR5⟩ : ∃ R, Hid (R = oneL none s) := ⟨_, rfl⟩
  obtain ⟨R6, hR6⟩ : ∃ R, Hid (R = oneL (some [63]) u1) := ⟨_, rfl⟩
  rw [← hR1.out] at HP1 hpq hLs
  rw [← hR2.out] at HP2 hpq hLt
  rw [← hR3.out] at HP3 hpq
  rw [← hR4.out] at HP4 hon
  rw [← hR5.out] at HA1 hon
  rw [← hR6.out] at HG1 hon
  obtain ⟨P1, at1, er1⟩ := R1
  obtain ⟨P2, at2, er2⟩ := R2
  obtain ⟨P3, at3, er3⟩ := R3
  obtain ⟨P4, at4, er4⟩ := R4
  obtain ⟨⟨a_s, a_p, a_n, ⟨a_v0, a_l0⟩, ⟨a_v1, a_l1⟩, ⟨a_v2, a_l2⟩, ⟨a_v3, a_l3⟩⟩, pa, h⟩ := R5
  obtain ⟨⟨b_s, b_p, b_n, ⟨b_v0, b_l0⟩, ⟨b_v1, b_l1⟩, ⟨b_v2, b_l2⟩, ⟨b_v3, b_l3⟩⟩, pb, h2⟩ := R6
  simp only at HP1 HP2 HP3 HP4 HA1 HG1 hpq hon hLs hLt
  have HPQ := Lib.hid hpq
  have HON := Lib.hid hon
  have HLS := Lib.hid hLs
  have HLT := Lib.hid hLt
  replace HA1 : Hid (∀ W, Since w W → Calls Tryz.prog 27 #[.string ⟨s.toArray⟩] W fun e w' => e = .returned (.tuple #[.agg #[.string ⟨a_s.toArray⟩, .string ⟨a_p.toArray⟩, .int .i64 a_n, .bool a_v0, .string ⟨a_l0.toArray⟩, .bool a_v1, .string ⟨a_l1.toArray⟩, .bool a_v2, .string ⟨a_l2.toArray⟩, .bool a_v3, .string ⟨a_l3.toArray⟩], .int .i64 (pa : Int), .int .i64 h]) ∧ Since W w') := HA1.out
  replace HG1 : Hid (∀ W, Since w W → Calls Tryz.prog 24 #[.string ⟨u1.toArray⟩] W fun e w' => e = .returned (.tuple #[.agg #[.string ⟨b_s.toArray⟩, .string ⟨b_p.toArray⟩, .int .i64 b_n, .bool b_v0, .string ⟨b_l0.toArray⟩, .bool b_v1, .string ⟨b_l1.toArray⟩, .bool b_v2, .string ⟨b_l2.toArray⟩, .bool b_v3, .string ⟨b_l3.toArray⟩], .int .i64 (pb : Int), .int .i64 h2]) ∧ Since W w') := HG1.out
  clear hpq hon hLs hLt hR1 hR2 hR3 hR4 hR5 hR6 HPO ml hul hu0l hu1l hu2l hu3 hu hu0 hu1 hu2 hsn hsm hE HEE
  go_wp2_with fail
  refine (HP1.out _ hS4).mono ?_
  rintro e w6 ⟨c3, c4, c5, c6, c7, c8, c9, C1, U1, G1, rfl, hO1, hb⟩
  have hS6 := hS4.trans hb
  clear hb HP1 hS4
  obtain ⟨pr1, pd1, cl1, qu1, bu1, ru1, gr1⟩ := P1
  obtain ⟨a3, e3, a4, e4, a5, e5, a8, e8, a9, e9, v3, v4, v5, v6, v7, v8, v9⟩ := pol_cells2 hO1
  simp only at v3 v4 v5 v6 v7 v8 v9
  subst v3 v4 v5 v6 v7 v8 v9
  obtain ⟨w7, hw7⟩ : ∃ W, Hid (W = w6.alloc (.cells #[.slice a3 pr1.length e3, .slice a4 pd1.length e4, .slice a5 cl1.length e5, .int .i64 qu1, .int .i64 bu1, .slice a8 ru1.length e8, .slice a9 gr1.length e9] 29)) := ⟨_, rfl⟩
  have hb : Since w6 w7 := by rw [hw7.out]; exact (Since.refl w6).alloc _
  have hB1 : Cel w7 w6.heap.size #[.slice a3 pr1.length e3, .slice a4 pd1.length e4, .slice a5 cl1.length e5, .int .i64 qu1, .int .i64 bu1, .slice a8 ru1.length e8, .slice a9 gr1.length e9] 29 := by rw [hw7.out]; exact heap_alloc_new w6 _
  have hS7 := hS6.trans hb
  replace hO1 := hO1.next hb
  clear hb hS6
  go_upto_region 6 with (fail)
  rw [← hw7.out]
  obtain ⟨g1, hg1⟩ : ∃ g, Hid (g = w6.heap.size) := ⟨_, rfl⟩
  simp only [← hg1.out]
  rw [← hg1.out] at hB1
  clear hg1 hw7
  go_wp2_with fail
  refine (HP2.out _ hS7).mono ?_
  rintro e w8 ⟨c3, c4, c5, c6, c7, c8, c9, C2, U2, G2, rfl, hO2, hb⟩
  have hS8 := hS7.trans hb
  replace hB1 := hB1.next hb
  replace hO1 := hO1.next hb
  clear hb HP2 hS7
  obtain ⟨pr2, pd2, cl2, qu2, bu2, ru2, gr2⟩ := P2
  obtain ⟨x3, y3, x4, y4, x5, y5, x8, y8, x9, y9, v3, v4, v5, v6, v7, v8, v9⟩ := pol_cells2 hO2
  simp only at v3 v4 v5 v6 v7 v8 v9
  subst v3 v4 v5 v6 v7 v8 v9
  obtain ⟨w9, hw9⟩ : ∃ W, Hid (W = w8.alloc (.cells #[.slice x3 pr2.length y3, .slice x4 pd2.length y4, .slice x5 cl2.length y5, .int .i64 qu2, .int .i64 bu2, .slice x8 ru2.length y8, .slice x9 gr2.length y9] 29)) := ⟨_, rfl⟩
  have hb : Since w8 w9 := by rw [hw9.out]; exact (Since.refl w8).alloc _
  have hB2 : Cel w9 w8.heap.size #[.slice x3 pr2.length y3, .slice x4 pd2.length y4, .slice x5 cl2.length y5, .int .i64 qu2, .int .i64 bu2, .slice x8 ru2.length y8, .slice x9 gr2.length y9] 29 := by rw [hw9.out]; exact heap_alloc_new w8 _
  have hS9 := hS8.trans hb
  replace hB1 := hB1.next hb
  replace hO1 := hO1.next hb
  replace hO2 := hO2.next hb
  clear hb hS8
  go_upto_region 7 with (fail)
  rw [← hw9.out]
  obtain ⟨g2, hg2⟩ : ∃ g, Hid (g = w8.heap.size) := ⟨_, rfl⟩
  simp only [← hg2.out]
  rw [← hg2.out] at hB2
  clear hg2 hw9
  go_wp2_with fail
  refine (HP3.out _ hS9).mono ?_
  rintro e wA ⟨c3, c4, c5, c6, c7, c8, c9, C3, U3, G3, rfl, hO3, hb⟩
  have hSA := hS9.trans hb
  replace hB1 := hB1.next hb
  replace hB2 := hB2.next hb
  replace hO1 := hO1.next hb
  replace hO2 := hO2.next hb
  clear hb HP3 hS9
  obtain ⟨pr3, pd3, cl3, qu3, bu3, ru3, gr3⟩ := P3
  obtain ⟨z3, k3, z4, k4, z5, k5, z8, k8, z9, k9, v3, v4, v5, v6, v7, v8, v9⟩ := pol_cells2 hO3
  simp only at v3 v4 v5 v6 v7 v8 v9
  subst v3 v4 v5 v6 v7 v8 v9
  obtain ⟨wB, hwB⟩ : ∃ W, Hid (W = wA.alloc (.cells #[.slice z3 pr3.length k3, .slice z4 pd3.length k4, .slice z5 cl3.length k5, .int .i64 qu3, .int .i64 bu3, .slice z8 ru3.length k8, .slice z9 gr3.length k9] 29)) := ⟨_, rfl⟩
  have hb : Since wA wB := by rw [hwB.out]; exact (Since.refl wA).alloc _
  have hB3 : Cel wB wA.heap.size #[.slice z3 pr3.length k3, .slice z4 pd3.length k4, .slice z5 cl3.length k5, .int .i64 qu3, .int .i64 bu3, .slice z8 ru3.length k8, .slice z9 gr3.length k9] 29 := by rw [hwB.out]; exact heap_alloc_new wA _
  have hSB := hSA.trans hb
  replace hB1 := hB1.next hb
  replace hB2 := hB2.next hb
  replace hO1 := hO1.next hb
  replace hO2 := hO2.next hb
  replace hO3 := hO3.next hb
  clear hb hSA
  go_upto_region 8 with (fail)
  rw [← hwB.out]
  obtain ⟨g3, hg3⟩ : ∃ g, Hid (g = wA.heap.size) := ⟨_, rfl⟩
  simp only [← hg3.out]
  rw [← hg3.out] at hB3
  clear hg3 hwB
  by_cases f1 : er1 = 0
  · subst f1
    by_cases f2 : er2 = 0
    · subst f2
      have hq := HPQ.out rfl rfl
      have hst := two_rows hO1.prd hO2.prd
      obtain ⟨X3, X4, X5, X8, X9, Y3, Y4, Y5, Y8, Y9, ⟨r3, r4, r5, r8, r9⟩, ⟨t3, t4, t5, t8, t9⟩, ⟨o3, o4, o5, o8, o9⟩, ⟨p3, p4, p5, p8, p9⟩, hBoth⟩ := hst
      have HX3 : Hid (wB.ownsRow _ 9 1 (.slice a3 pr1.length e3) pr1.length X3) := r3
      have HRD3 : Hid (Reads wB wB.heap.size 1 x3 pr2.length Y3) := own_reads (by decide) t3
      have HOX3 := Lib.hid o3
      have HOY3 := Lib.hid p3
      obtain ⟨i3, hi, hz0, hz1, hz2⟩ := info_parts info_pr
      have I3 := Lib.hid (And.intro hi (And.intro hz0 (And.intro hz1 hz2)))
      clear hi hz0 hz1 hz2
      have HX4 : Hid (wB.ownsRow _ 36 2 (.slice a4 pd1.length e4) pd1.length X4) := r4
      have HRD4 : Hid (Reads wB wB.heap.size 2 x4 pd2.length Y4) := own_reads (by decide) t4
      have HOX4 := Lib.hid o4
      have HOY4 := Lib.hid p4
      obtain ⟨i4, hi, hz0, hz1, hz2⟩ := info_parts info_pd
      have I4 := Lib.hid (And.intro hi (And.intro hz0 (And.intro hz1 hz2)))
      clear hi hz0 hz1 hz2
      have HX5 : Hid (wB.ownsRow _ 38 2 (.slice a5 cl1.length e5) cl1.length X5) := r5
      have HRD5 : Hid (Reads wB wB.heap.size 2 x5 cl2.length Y5) := own_reads (by decide) t5
      have HOX5 := Lib.hid o5
      have HOY5 := Lib.hid p5
      obtain ⟨i5, hi, hz0, hz1, hz2⟩ := info_parts info_cl
      have I5 := Lib.hid (And.intro hi (And.intro hz0 (And.intro hz1 hz2)))
      clear hi hz0 hz1 hz2
      have HX8 : Hid (wB.ownsRow _ 47 12 (.slice a8 ru1.length e8) ru1.length X8) := r8
      have HRD8 : Hid (Reads wB wB.heap.size 12 x8 ru2.length Y8) := own_reads (by decide) t8
      have HOX8 := Lib.hid o8
      have HOY8 := Lib.hid p8
      obtain ⟨i8, hi, hz0, hz1, hz2⟩ := info_parts info_ru
      have I8 := Lib.hid (And.intro hi (And.intro hz0 (And.intro hz1 hz2)))
      clear hi hz0 hz1 hz2
      have HX9 : Hid (wB.ownsRow _ 49 13 (.slice a9 gr1.length e9) gr1.length X9) := r9
      have HRD9 : Hid (Reads wB wB.heap.size 13 x9 gr2.length Y9) := own_reads (by decide) t9
      have HOX9 := Lib.hid o9
      have HOY9 := Lib.hid p9
      obtain ⟨i9, hi, hz0, hz1, hz2⟩ := info_parts info_gr
      have I9 := Lib.hid (And.intro hi (And.intro hz0 (And.intro hz1 hz2)))
      clear hi hz0 hz1 hz2
      have HBOTH : Hid (∀ (W : World) (B : Nat) (v3 v4 v5 v8 v9 : Value), Since wB W → W.ownsRow B 9 1 v3 (pr1.length + pr2.length) (X3 ++ Y3) → W.ownsRow B 36 2 v4 (pd1.length + pd2.length) (X4 ++ Y4) → W.ownsRow B 38 2 v5 (cl1.length + cl2.length) (X5 ++ Y5) → W.ownsRow B 47 12 v8 (ru1.length + ru2.length) (X8 ++ Y8) → W.ownsRow B 49 13 v9 (gr1.length + gr2.length) (X9 ++ Y9) → ∃ C U G, PRd W 0 v3 v4 v5 (.int .i64 (max qu1 qu2)) (.int .i64 (max bu1 bu2)) v8 v9 (bothP ⟨pr1, pd1, cl1, qu1, bu1, ru1, gr1⟩ ⟨pr2, pd2, cl2, qu2, bu2, ru2, gr2⟩) C U G) := hBoth
      have HSP : Hid (⟨pr3, pd3, cl3, qu3, bu3, ru3, gr3⟩ = bothP ⟨pr1, pd1, cl1, qu1, bu1, ru1, gr1⟩ ⟨pr2, pd2, cl2, qu2, bu2, ru2, gr2⟩ → ∀ W, Since wB W → ∀ v3 v4 v5 v8 v9 C U G, PRd W 0 v3 v4 v5 (.int .i64 (max qu1 qu2)) (.int .i64 (max bu1 bu2)) v8 v9 (bothP ⟨pr1, pd1, cl1, qu1, bu1, ru1, gr1⟩ ⟨pr2, pd2, cl2, qu2, bu2, ru2, gr2⟩) C U G → Calls Tryz.prog 12 #[.agg #[.slice z3 pr3.length k3, .slice z4 pd3.length k4, .slice z5 cl3.length k5, .int .i64 qu3, .int .i64 bu3, .slice z8 ru3.length k8, .slice z9 gr3.length k9], .agg #[v3, v4, v5, .int .i64 (max qu1 qu2), .int .i64 (max bu1 bu2), v8, v9]] W fun e w' => e = .returned (.bool true) ∧ Since W w') := fun e W h v3 v4 v5 v8 v9 C U G hh => by
        have k := (hO3.next h).prd
        rw [e] at k
        exact same_policy_prd k hh
      replace HLS : Hid (pr1.length ≤ 65536 ∧ pd1.length ≤ 65536 ∧ cl1.length ≤ 65536 ∧ ru1.length ≤ 65536 ∧ gr1.length ≤ 65536) := HLS.out
      replace HLT : Hid (pr2.length ≤ 65536 ∧ pd2.length ≤ 65536 ∧ cl2.length ≤ 65536 ∧ ru2.length ≤ 65536 ∧ gr2.length ≤ 65536) := HLT.out
      have hA1 : At wB g1 0 #[.slice a3 pr1.length e3, .slice a4 pd1.length e4, .slice a5 cl1.length e5, .int .i64 qu1, .int .i64 bu1, .slice a8 ru1.length e8, .slice a9 gr1.length e9] := hB1.at
      have hA2 : At wB g2 0 #[.slice x3 pr2.length y3, .slice x4 pd2.length y4, .slice x5 cl2.length y5, .int .i64 qu2, .int .i64 bu2, .slice x8 ru2.length y8, .slice x9 gr2.length y9] := hB2.at
      clear r3 r4 r5 r8 r9 t3 t4 t5 t8 t9 o3 o4 o5 o8 o9 p3 p4 p5 p8 p9 hBoth hO1 hO2 hO3 hB1 hB2 HPQ
      go_upto_if 60 with (fail)
      go_cut [14] from 60 to 109 (fun s14 W => Since wB W)
      case first =>
        rcases hq with ⟨e3, eP⟩ | e3
        · subst e3
          have HS2 := Lib.hid (HSP.out eP)
          clear HSP eP HA1 HG1 HP4 HON hSB
          go_upto_region 10 with (fail)
          have hs0 : Since wB wB.drew := (Since.refl _).drew
          refine hx_begin (S := fun W => Since wB W) (by kernel_rfl) hs0 (by kernel_rfl) (fun _ _ _ _ _ h => h) (fun hns hQ => ?_)
          refine hx_take (i := 0) (oi := _) (v := .pointer (some ⟨g1, 0, none⟩)) rfl rfl hns (by kernel_rfl) (by kernel_rfl) hQ (by kernel_rfl) (fun _ _ => by kernel_rfl) hs0 ?_
          refine hx_take (i := 1) (oi := _) (v := .slice a3 pr1.length e3) rfl rfl hns (by kernel_rfl) (by kernel_rfl) hQ (by kernel_rfl) (fun W hW => ld_one rfl (by kernel_rfl) (by kernel_rfl) W (hA1.next hW 0 _ rfl)) hs0 ?_
          refine hx_take (i := 3) (oi := _) (v := .pointer (some ⟨g2, 0, none⟩)) rfl rfl hns (by kernel_rfl) (by kernel_rfl) hQ (by kernel_rfl) (fun _ _ => by kernel_rfl) hs0 ?_
          refine hx_take (i := 4) (oi := _) (v := .slice x3 pr2.length y3) rfl rfl hns (by kernel_rfl) (by kernel_rfl) hQ (by kernel_rfl) (fun W hW => ld_one rfl (by kernel_rfl) (by kernel_rfl) W (hA2.next hW 0 _ rfl)) hs0 ?_
          refine hx_take (i := 6) (oi := _) (v := .pointer (some ⟨g1, 1, none⟩)) rfl rfl hns (by kernel_rfl) (by kernel_rfl) hQ (by kernel_rfl) (fun _ _ => by kernel_rfl) hs0 ?_
          refine hx_take (i := 7) (oi := _) (v := .slice a4 pd1.length e4) rfl rfl hns (by kernel_rfl) (by kernel_rfl) hQ (by kernel_rfl) (fun W hW => ld_one rfl (by kernel_rfl) (by kernel_rfl) W (hA1.next hW 1 _ rfl)) hs0 ?_
          refine hx_take (i := 9) (oi := _) (v := .pointer (some ⟨g2, 1, none⟩)) rfl rfl hns (by kernel_rfl) (by kernel_rfl) hQ (by kernel_rfl) (fun _ _ => by kernel_rfl) hs0 ?_
          refine hx_take (i := 10) (oi := _) (v := .slice x4 pd2.length y4) rfl rfl hns (by kernel_rfl) (by kernel_rfl) hQ (by kernel_rfl) (fun W hW => ld_one rfl (by kernel_rfl) (by kernel_rfl) W (hA2.next hW 1 _ rfl)) hs0 ?_
          refine hx_take (i := 12) (oi := _) (v := .pointer (some ⟨g1, 2, none⟩)) rfl rfl hns (by kernel_rfl) (by kernel_rfl) hQ (by kernel_rfl) (fun _ _ => by kernel_rfl) hs0 ?_
          refine hx_take (i := 13) (oi := _) (v := .slice a5 cl1.length e5) rfl rfl hns (by kernel_rfl) (by kernel_rfl) hQ (by kernel_rfl) (fun W hW => ld_one rfl (by kernel_rfl) (by kernel_rfl) W (hA1.next hW 2 _ rfl)) hs0 ?_
          refine hx_take (i := 15) (oi := _) (v := .pointer (some ⟨g2, 2, none⟩)) rfl rfl hns (by kernel_rfl) (by kernel_rfl) hQ (by kernel_rfl) (fun _ _ => by kernel_rfl) hs0 ?_
          refine hx_take (i := 16) (oi := _) (v := .slice x5 cl2.length y5) rfl rfl hns (by kernel_rfl) (by kernel_rfl) hQ (by kernel_rfl) (fun W hW => ld_one rfl (by kernel_rfl) (by kernel_rfl) W (hA2.next hW 2 _ rfl)) hs0 ?_
          refine hx_take (i := 18) (oi := _) (v := .pointer (some ⟨g1, 3, none⟩)) rfl rfl hns (by kernel_rfl) (by kernel_rfl) hQ (by kernel_rfl) (fun _ _ => by kernel_rfl) hs0 ?_
          refine hx_take (i := 19) (oi := _) (v := .int .i64 qu1) rfl rfl hns (by kernel_rfl) (by kernel_rfl) hQ (by kernel_rfl) (fun W hW => ld_one rfl (by kernel_rfl) (by kernel_rfl) W (hA1.next hW 3 _ rfl)) hs0 ?_
          refine hx_take (i := 20) (oi := _) (v := .pointer (some ⟨g2, 3, none⟩)) rfl rfl hns (by kernel_rfl) (by kernel_rfl) hQ (by kernel_rfl) (fun _ _ => by kernel_rfl) hs0 ?_
          refine hx_take (i := 21) (oi := _) (v := .int .i64 qu2) rfl rfl hns (by kernel_rfl) (by kernel_rfl) hQ (by kernel_rfl) (fun W hW => ld_one rfl (by kernel_rfl) (by kernel_rfl) W (hA2.next hW 3 _ rfl)) hs0 ?_
          refine hx_take (i := 22) (oi := _) (v := .int .i64 (max qu1 qu2)) rfl rfl hns (by kernel_rfl) (by kernel_rfl) hQ (by kernel_rfl) (fun W _ => max_int rfl (by kernel_rfl) (by kernel_rfl) W) hs0 ?_
          refine hx_take (i := 23) (oi := _) (v := .pointer (some ⟨g1, 4, none⟩)) rfl rfl hns (by kernel_rfl) (by kernel_rfl) hQ (by kernel_rfl) (fun _ _ => by kernel_rfl) hs0 ?_
          refine hx_take (i := 24) (oi := _) (v := .int .i64 bu1) rfl rfl hns (by kernel_rfl) (by kernel_rfl) hQ (by kernel_rfl) (fun W hW => ld_one rfl (by kernel_rfl) (by kernel_rfl) W (hA1.next hW 4 _ rfl)) hs0 ?_
          refine hx_take (i := 25) (oi := _) (v := .pointer (some ⟨g2, 4, none⟩)) rfl rfl hns (by kernel_rfl) (by kernel_rfl) hQ (by kernel_rfl) (fun _ _ => by kernel_rfl) hs0 ?_
          refine hx_take (i := 26) (oi := _) (v := .int .i64 bu2) rfl rfl hns (by kernel_rfl) (by kernel_rfl) hQ (by kernel_rfl) (fun W hW => ld_one rfl (by kernel_rfl) (by kernel_rfl) W (hA2.next hW 4 _ rfl)) hs0 ?_
          refine hx_take (i := 27) (oi := _) (v := .int .i64 (max bu1 bu2)) rfl rfl hns (by kernel_rfl) (by kernel_rfl) hQ (by kernel_rfl) (fun W _ => max_int rfl (by kernel_rfl) (by kernel_rfl) W) hs0 ?_
          refine hx_take (i := 28) (oi := _) (v := .pointer (some ⟨g1, 5, none⟩)) rfl rfl hns (by kernel_rfl) (by kernel_rfl) hQ (by kernel_rfl) (fun _ _ => by kernel_rfl) hs0 ?_
          refine hx_take (i := 29) (oi := _) (v := .slice a8 ru1.length e8) rfl rfl hns (by kernel_rfl) (by kernel_rfl) hQ (by kernel_rfl) (fun W hW => ld_one rfl (by kernel_rfl) (by kernel_rfl) W (hA1.next hW 5 _ rfl)) hs0 ?_
          refine hx_take (i := 31) (oi := _) (v := .pointer (some ⟨g2, 5, none⟩)) rfl rfl hns (by kernel_rfl) (by kernel_rfl) hQ (by kernel_rfl) (fun _ _ => by kernel_rfl) hs0 ?_
          refine hx_take (i := 32) (oi := _) (v := .slice x8 ru2.length y8) rfl rfl hns (by kernel_rfl) (by kernel_rfl) hQ (by kernel_rfl) (fun W hW => ld_one rfl (by kernel_rfl) (by kernel_rfl) W (hA2.next hW 5 _ rfl)) hs0 ?_
          refine hx_take (i := 34) (oi := _) (v := .pointer (some ⟨g1, 6, none⟩)) rfl rfl hns (by kernel_rfl) (by kernel_rfl) hQ (by kernel_rfl) (fun _ _ => by kernel_rfl) hs0 ?_
          refine hx_take (i := 35) (oi := _) (v := .slice a9 gr1.length e9) rfl rfl hns (by kernel_rfl) (by kernel_rfl) hQ (by kernel_rfl) (fun W hW => ld_one rfl (by kernel_rfl) (by kernel_rfl) W (hA1.next hW 6 _ rfl)) hs0 ?_
          refine hx_take (i := 37) (oi := _) (v := .pointer (some ⟨g2, 6, none⟩)) rfl rfl hns (by kernel_rfl) (by kernel_rfl) hQ (by kernel_rfl) (fun _ _ => by kernel_rfl) hs0 ?_
          refine hx_take (i := 38) (oi := _) (v := .slice x9 gr2.length y9) rfl rfl hns (by kernel_rfl) (by kernel_rfl) hQ (by kernel_rfl) (fun W hW => ld_one rfl (by kernel_rfl) (by kernel_rfl) W (hA2.next hW 6 _ rfl)) hs0 ?_
          refine hx_two_cv (i := 2) (j := 41) 31 #[.slice a3 pr1.length e3] (.pointer (some ⟨wB.drew.heap.size, 0, none⟩)) ((wB.drew.alloc (.cells #[.slice none 0 0, .slice none 0 0, .slice none 0 0, .int .i64 0, .int .i64 0, .slice none 0 0, .slice none 0 0] 29))) rfl rfl (by kernel_rfl) (by kernel_rfl) (by kernel_rfl) rfl (by kernel_rfl) (ownR_str _ _ _ _ _ (own_since HX3.out hs0) HOX3.out (by have := HLS.out.1; omega)) rfl (by kernel_rfl) (hs0.alloc _) ?_ ?_
          · rintro e wx51 ⟨v3, rfl, hW3, hb⟩
            have hs1 : Since wB wx51 := hs0.trans hb
            replace hW3 := own_base hW3 (hs0).size
            obtain ⟨b3, d3, rfl⟩ := own_slice hW3
            clear hb
            refine ⟨_, rfl, hs1, ?_⟩
            refine hx_two (i := 5) (j := 41) rfl rfl (by kernel_rfl) (by kernel_rfl) (by kernel_rfl) ?_ ?_
            · refine wp_appendK (.tmp 65) (.tmp 67) 23 wB.heap.size 9 i3 (.string ByteArray.empty) 1 16 (.slice b3 pr1.length d3) pr1.length X3 wB.heap.size x3 pr2.length y3 Y3 rfl rfl Tryz.underlying23 I3.out.1 I3.out.2.1 I3.out.2.2.1 I3.out.2.2.2 rfl (by decide) (by kernel_rfl) hW3 (by kernel_rfl) (reads_next HRD3.out hs1) HOY3.out (by have := HLS.out.1; have := HLT.out.1; unfold maxLen; omega) (by have := HLS.out.1; have := HLT.out.1; omega) (hs1).size ?_
              intro vn3 wx52 hX3 hg3 _
              have hs2 : Since wB wx52 := since_grow hs1 hW3 (Nat.le_refl _) hg3
              replace hW3 := hX3
              clear hX3 hg3
              obtain ⟨p3, q3, rfl⟩ := own_slice hW3
              refine ⟨hs2, ?_⟩
              refine hx_two_cv (i := 8) (j := 41) 32 #[.slice a4 pd1.length e4] (.pointer (some ⟨wx52.heap.size, 0, none⟩)) ((wx52.alloc (.cells #[.slice none 0 0, .slice none 0 0, .slice none 0 0, .int .i64 0, .int .i64 0, .slice none 0 0, .slice none 0 0] 29))) rfl rfl (by kernel_rfl) (by kernel_rfl) (by kernel_rfl) rfl (by kernel_rfl) (ownR_prd _ _ _ _ _ (own_since HX4.out hs2) HOX4.out (by have := HLS.out.2.1; omega)) rfl (by kernel_rfl) (hs2.alloc _) ?_ ?_
              · rintro e wx53 ⟨v4, rfl, hW4, hb⟩
                have hs3 : Since wB wx53 := hs2.trans hb
                replace hW3 := own_since hW3 (hb)
                replace hW4 := own_base hW4 (hs2).size
                obtain ⟨b4, d4, rfl⟩ := own_slice hW4
                clear hb
                refine ⟨_, rfl, hs3, ?_⟩
                refine hx_two (i := 11) (j := 41) rfl rfl (by kernel_rfl) (by kernel_rfl) (by kernel_rfl) ?_ ?_
                · refine wp_appendK (.tmp 71) (.tmp 73) 24 wB.heap.size 36 i4 (.agg #[.string ByteArray.empty, .int .i64 0]) 2 24 (.slice b4 pd1.length d4) pd1.length X4 wB.heap.size x4 pd2.length y4 Y4 rfl rfl Tryz.underlying24 I4.out.1 I4.out.2.1 I4.out.2.2.1 I4.out.2.2.2 rfl (by decide) (by kernel_rfl) hW4 (by kernel_rfl) (reads_next HRD4.out hs3) HOY4.out (by have := HLS.out.2.1; have := HLT.out.2.1; unfold maxLen; omega) (by have := HLS.out.2.1; have := HLT.out.2.1; omega) (hs3).size ?_
                  intro vn4 wx54 hX4 hg4 _
                  have hs4 : Since wB wx54 := since_grow hs3 hW4 (Nat.le_refl _) hg4
                  replace hW3 := own_other hW3 hW4 (by decide) hg4
                  replace hW4 := hX4
                  clear hX4 hg4
                  obtain ⟨p4, q4, rfl⟩ := own_slice hW4
                  refine ⟨hs4, ?_⟩
                  refine hx_two_cv (i := 14) (j := 41) 33 #[.slice a5 cl1.length e5] (.pointer (some ⟨wx54.heap.size, 0, none⟩)) ((wx54.alloc (.cells #[.slice none 0 0, .slice none 0 0, .slice none 0 0, .int .i64 0, .int .i64 0, .slice none 0 0, .slice none 0 0] 29))) rfl rfl (by kernel_rfl) (by kernel_rfl) (by kernel_rfl) rfl (by kernel_rfl) (ownR_clr _ _ _ _ _ (own_since HX5.out hs4) HOX5.out (by have := HLS.out.2.2.1; omega)) rfl (by kernel_rfl) (hs4.alloc _) ?_ ?_
                  · rintro e wx55 ⟨v5, rfl, hW5, hb⟩
                    have hs5 : Since wB wx55 := hs4.trans hb
                    replace hW3 := own_since hW3 (hb)
                    replace hW4 := own_since hW4 (hb)
                    replace hW5 := own_base hW5 (hs4).size
                    obtain ⟨b5, d5, rfl⟩ := own_slice hW5
                    clear hb
                    refine ⟨_, rfl, hs5, ?_⟩
                    refine hx_two (i := 17) (j := 41) rfl rfl (by kernel_rfl) (by kernel_rfl) (by kernel_rfl) ?_ ?_
                    · refine wp_appendK (.tmp 77) (.tmp 79) 25 wB.heap.size 38 i5 (.agg #[.string ByteArray.empty, .slice none 0 0]) 2 40 (.slice b5 cl1.length d5) cl1.length X5 wB.heap.size x5 cl2.length y5 Y5 rfl rfl Tryz.underlying25 I5.out.1 I5.out.2.1 I5.out.2.2.1 I5.out.2.2.2 rfl (by decide) (by kernel_rfl) hW5 (by kernel_rfl) (reads_next HRD5.out hs5) HOY5.out (by have := HLS.out.2.2.1; have := HLT.out.2.2.1; unfold maxLen; omega) (by have := HLS.out.2.2.1; have := HLT.out.2.2.1; omega) (hs5).size ?_
                      intro vn5 wx56 hX5 hg5 _
                      have hs6 : Since wB wx56 := since_grow hs5 hW5 (Nat.le_refl _) hg5
                      replace hW3 := own_other hW3 hW5 (by decide) hg5
                      replace hW4 := own_other hW4 hW5 (by decide) hg5
                      replace hW5 := hX5
                      clear hX5 hg5
                      obtain ⟨p5, q5, rfl⟩ := own_slice hW5
                      refine ⟨hs6, ?_⟩
                      refine hx_two_cv (i := 30) (j := 41) 34 #[.slice a8 ru1.length e8] (.pointer (some ⟨wx56.heap.size, 0, none⟩)) ((wx56.alloc (.cells #[.slice none 0 0, .slice none 0 0, .slice none 0 0, .int .i64 0, .int .i64 0, .slice none 0 0, .slice none 0 0] 29))) rfl rfl (by kernel_rfl) (by kernel_rfl) (by kernel_rfl) rfl (by kernel_rfl) (ownR_rul _ _ _ _ _ (own_since HX8.out hs6) HOX8.out (by have := HLS.out.2.2.2.1; omega)) rfl (by kernel_rfl) (hs6.alloc _) ?_ ?_
                      · rintro e wx57 ⟨v8, rfl, hW8, hb⟩
                        have hs7 : Since wB wx57 := hs6.trans hb
                        replace hW3 := own_since hW3 (hb)
                        replace hW4 := own_since hW4 (hb)
                        replace hW5 := own_since hW5 (hb)
                        replace hW8 := own_base hW8 (hs6).size
                        obtain ⟨b8, d8, rfl⟩ := own_slice hW8
                        clear hb
                        refine ⟨_, rfl, hs7, ?_⟩
                        refine hx_two (i := 33) (j := 41) rfl rfl (by kernel_rfl) (by kernel_rfl) (by kernel_rfl) ?_ ?_
                        · refine wp_appendK (.tmp 93) (.tmp 95) 26 wB.heap.size 47 i8 (.agg #[.string ByteArray.empty, .string ByteArray.empty, .int .i64 0, .bool false, .string ByteArray.empty, .bool false, .string ByteArray.empty, .bool false, .string ByteArray.empty, .bool false, .string ByteArray.empty, .slice none 0 0]) 12 160 (.slice b8 ru1.length d8) ru1.length X8 wB.heap.size x8 ru2.length y8 Y8 rfl rfl Tryz.underlying26 I8.out.1 I8.out.2.1 I8.out.2.2.1 I8.out.2.2.2 rfl (by decide) (by kernel_rfl) hW8 (by kernel_rfl) (reads_next HRD8.out hs7) HOY8.out (by have := HLS.out.2.2.2.1; have := HLT.out.2.2.2.1; unfold maxLen; omega) (by have := HLS.out.2.2.2.1; have := HLT.out.2.2.2.1; omega) (hs7).size ?_
                          intro vn8 wx58 hX8 hg8 _
                          have hs8 : Since wB wx58 := since_grow hs7 hW8 (Nat.le_refl _) hg8
                          replace hW3 := own_other hW3 hW8 (by decide) hg8
                          replace hW4 := own_other hW4 hW8 (by decide) hg8
                          replace hW5 := own_other hW5 hW8 (by decide) hg8
                          replace hW8 := hX8
                          clear hX8 hg8
                          obtain ⟨p8, q8, rfl⟩ := own_slice hW8
                          refine ⟨hs8, ?_⟩
                          refine hx_two_cv (i := 36) (j := 41) 35 #[.slice a9 gr1.length e9] (.pointer (some ⟨wx58.heap.size, 0, none⟩)) ((wx58.alloc (.cells #[.slice none 0 0, .slice none 0 0, .slice none 0 0, .int .i64 0, .int .i64 0, .slice none 0 0, .slice none 0 0] 29))) rfl rfl (by kernel_rfl) (by kernel_rfl) (by kernel_rfl) rfl (by kernel_rfl) (ownR_grn _ _ _ _ _ (own_since HX9.out hs8) HOX9.out (by have := HLS.out.2.2.2.2; omega)) rfl (by kernel_rfl) (hs8.alloc _) ?_ ?_
                          · rintro e wx59 ⟨v9, rfl, hW9, hb⟩
                            have hs9 : Since wB wx59 := hs8.trans hb
                            replace hW3 := own_since hW3 (hb)
                            replace hW4 := own_since hW4 (hb)
                            replace hW5 := own_since hW5 (hb)
                            replace hW8 := own_since hW8 (hb)
                            replace hW9 := own_base hW9 (hs8).size
                            obtain ⟨b9, d9, rfl⟩ := own_slice hW9
                            clear hb
                            refine ⟨_, rfl, hs9, ?_⟩
                            refine hx_two (i := 39) (j := 41) rfl rfl (by kernel_rfl) (by kernel_rfl) (by kernel_rfl) ?_ ?_
                            · refine wp_appendK (.tmp 99) (.tmp 101) 27 wB.heap.size 49 i9 (.agg #[.string ByteArray.empty, .string ByteArray.empty, .string ByteArray.empty, .int .i64 0, .bool false, .string ByteArray.empty, .bool false, .string ByteArray.empty, .bool false, .string ByteArray.empty, .bool false, .string ByteArray.empty, .slice none 0 0]) 13 176 (.slice b9 gr1.length d9) gr1.length X9 wB.heap.size x9 gr2.length y9 Y9 rfl rfl Tryz.underlying27 I9.out.1 I9.out.2.1 I9.out.2.2.1 I9.out.2.2.2 rfl (by decide) (by kernel_rfl) hW9 (by kernel_rfl) (reads_next HRD9.out hs9) HOY9.out (by have := HLS.out.2.2.2.2; have := HLT.out.2.2.2.2; unfold maxLen; omega) (by have := HLS.out.2.2.2.2; have := HLT.out.2.2.2.2; omega) (hs9).size ?_
                              intro vn9 wx60 hX9 hg9 _
                              have hs10 : Since wB wx60 := since_grow hs9 hW9 (Nat.le_refl _) hg9
                              replace hW3 := own_other hW3 hW9 (by decide) hg9
                              replace hW4 := own_other hW4 hW9 (by decide) hg9
                              replace hW5 := own_other hW5 hW9 (by decide) hg9
                              replace hW8 := own_other hW8 hW9 (by decide) hg9
                              replace hW9 := hX9
                              clear hX9 hg9
                              obtain ⟨p9, q9, rfl⟩ := own_slice hW9
                              refine ⟨hs10, ?_⟩
                              refine hx_take (i := 40) (oi := _) (v := .agg #[.slice p3 (pr1.length + pr2.length) q3, .slice p4 (pd1.length + pd2.length) q4, .slice p5 (cl1.length + cl2.length) q5, .int .i64 (max qu1 qu2), .int .i64 (max bu1 bu2), .slice p8 (ru1.length + ru2.length) q8, .slice p9 (gr1.length + gr2.length) q9]) rfl rfl hns (by kernel_rfl) (by kernel_rfl) hQ (by kernel_rfl) (fun _ _ => by kernel_rfl) hs10 ?_
                              have hs11 : Since wB (wx60.alloc (.cells #[.slice none 0 0, .slice none 0 0, .slice none 0 0, .int .i64 0, .int .i64 0, .slice none 0 0, .slice none 0 0] 29)) := hs10.alloc _
                              have hge : wB.heap.size ≤ wx60.heap.size := (hs10).size
                              replace hW3 := own_since hW3 (((Since.refl wx60).alloc (.cells #[.slice none 0 0, .slice none 0 0, .slice none 0 0, .int .i64 0, .int .i64 0, .slice none 0 0, .slice none 0 0] 29)))
                              replace hW4 := own_since hW4 (((Since.refl wx60).alloc (.cells #[.slice none 0 0, .slice none 0 0, .slice none 0 0, .int .i64 0, .int .i64 0, .slice none 0 0, .slice none 0 0] 29)))
                              replace hW5 := own_since hW5 (((Since.refl wx60).alloc (.cells #[.slice none 0 0, .slice none 0 0, .slice none 0 0, .int .i64 0, .int .i64 0, .slice none 0 0, .slice none 0 0] 29)))
                              replace hW8 := own_since hW8 (((Since.refl wx60).alloc (.cells #[.slice none 0 0, .slice none 0 0, .slice none 0 0, .int .i64 0, .int .i64 0, .slice none 0 0, .slice none 0 0] 29)))
                              replace hW9 := own_since hW9 (((Since.refl wx60).alloc (.cells #[.slice none 0 0, .slice none 0 0, .slice none 0 0, .int .i64 0, .int .i64 0, .slice none 0 0, .slice none 0 0] 29)))
                              have hCel : Cel (wx60.alloc (.cells #[.slice none 0 0, .slice none 0 0, .slice none 0 0, .int .i64 0, .int .i64 0, .slice none 0 0, .slice none 0 0] 29)) wx60.heap.size #[.slice none 0 0, .slice none 0 0, .slice none 0 0, .int .i64 0, .int .i64 0, .slice none 0 0, .slice none 0 0] 29 := heap_alloc_new _ _
                              refine hx_make (i := 41) (oi := _) (.pointer (some ⟨wx60.heap.size, 0, none⟩)) (wx60.alloc (.cells #[.slice none 0 0, .slice none 0 0, .slice none 0 0, .int .i64 0, .int .i64 0, .slice none 0 0, .slice none 0 0] 29)) rfl rfl (by kernel_rfl) (by kernel_rfl) (by kernel_rfl) hs11 ?_
                              have hs12 : Since wB ((wx60.alloc (.cells #[.slice none 0 0, .slice none 0 0, .slice none 0 0, .int .i64 0, .int .i64 0, .slice none 0 0, .slice none 0 0] 29)).setRow (wx60.heap.size) #[.slice p3 (pr1.length + pr2.length) q3, .slice p4 (pd1.length + pd2.length) q4, .slice p5 (cl1.length + cl2.length) q5, .int .i64 (max qu1 qu2), .int .i64 (max bu1 bu2), .slice p8 (ru1.length + ru2.length) q8, .slice p9 (gr1.length + gr2.length) q9]) := since_setRowP hs11 hge _
                              have hone : Hid ((#[.slice p3 (pr1.length + pr2.length) q3, .slice p4 (pd1.length + pd2.length) q4, .slice p5 (cl1.length + cl2.length) q5, .int .i64 (max qu1 qu2), .int .i64 (max bu1 bu2), .slice p8 (ru1.length + ru2.length) q8, .slice p9 (gr1.length + gr2.length) q9] : Array Value).all (·.oneCell') = true) := by show _ = _; simp [Value.oneCell']
                              refine hx_store (i := 42) (oi := _) ((wx60.alloc (.cells #[.slice none 0 0, .slice none 0 0, .slice none 0 0, .int .i64 0, .int .i64 0, .slice none 0 0, .slice none 0 0] 29)).setRow (wx60.heap.size) #[.slice p3 (pr1.length + pr2.length) q3, .slice p4 (pd1.length + pd2.length) q4, .slice p5 (cl1.length + cl2.length) q5, .int .i64 (max qu1 qu2), .int .i64 (max bu1 bu2), .slice p8 (ru1.length + ru2.length) q8, .slice p9 (gr1.length + gr2.length) q9]) rfl rfl (by kernel_rfl) (by kernel_rfl) (st_rowP (old := #[.slice none 0 0, .slice none 0 0, .slice none 0 0, .int .i64 0, .int .i64 0, .slice none 0 0, .slice none 0 0]) (cells := #[.slice p3 (pr1.length + pr2.length) q3, .slice p4 (pd1.length + pd2.length) q4, .slice p5 (cl1.length + cl2.length) q5, .int .i64 (max qu1 qu2), .int .i64 (max bu1 bu2), .slice p8 (ru1.length + ru2.length) q8, .slice p9 (gr1.length + gr2.length) q9]) rfl (by kernel_rfl) (by kernel_rfl) (by kernel_rfl) rfl hone.out _ hCel) hs12 ?_
                              replace hW3 := own_setRow (ds := #[.slice p3 (pr1.length + pr2.length) q3, .slice p4 (pd1.length + pd2.length) q4, .slice p5 (cl1.length + cl2.length) q5, .int .i64 (max qu1 qu2), .int .i64 (max bu1 bu2), .slice p8 (ru1.length + ru2.length) q8, .slice p9 (gr1.length + gr2.length) q9]) hW3 hCel (by decide)
                              replace hW4 := own_setRow (ds := #[.slice p3 (pr1.length + pr2.length) q3, .slice p4 (pd1.length + pd2.length) q4, .slice p5 (cl1.length + cl2.length) q5, .int .i64 (max qu1 qu2), .int .i64 (max bu1 bu2), .slice p8 (ru1.length + ru2.length) q8, .slice p9 (gr1.length + gr2.length) q9]) hW4 hCel (by decide)
                              replace hW5 := own_setRow (ds := #[.slice p3 (pr1.length + pr2.length) q3, .slice p4 (pd1.length + pd2.length) q4, .slice p5 (cl1.length + cl2.length) q5, .int .i64 (max qu1 qu2), .int .i64 (max bu1 bu2), .slice p8 (ru1.length + ru2.length) q8, .slice p9 (gr1.length + gr2.length) q9]) hW5 hCel (by decide)
                              replace hW8 := own_setRow (ds := #[.slice p3 (pr1.length + pr2.length) q3, .slice p4 (pd1.length + pd2.length) q4, .slice p5 (cl1.length + cl2.length) q5, .int .i64 (max qu1 qu2), .int .i64 (max bu1 bu2), .slice p8 (ru1.length + ru2.length) q8, .slice p9 (gr1.length + gr2.length) q9]) hW8 hCel (by decide)
                              replace hW9 := own_setRow (ds := #[.slice p3 (pr1.length + pr2.length) q3, .slice p4 (pd1.length + pd2.length) q4, .slice p5 (cl1.length + cl2.length) q5, .int .i64 (max qu1 qu2), .int .i64 (max bu1 bu2), .slice p8 (ru1.length + ru2.length) q8, .slice p9 (gr1.length + gr2.length) q9]) hW9 hCel (by decide)
                              replace hCel := hCel.row #[.slice p3 (pr1.length + pr2.length) q3, .slice p4 (pd1.length + pd2.length) q4, .slice p5 (cl1.length + cl2.length) q5, .int .i64 (max qu1 qu2), .int .i64 (max bu1 bu2), .slice p8 (ru1.length + ru2.length) q8, .slice p9 (gr1.length + gr2.length) q9]
                              refine wpAnyH_done (by kernel_rfl) ?_ _
                              clear hns hQ
                              simp only [List.set_cons_zero, List.set_cons_succ]
                              obtain ⟨C, U, G, hPR⟩ := HBOTH.out _ _ _ _ _ _ _ hs12 hW3 hW4 hW5 hW8 hW9
                              have HC := Lib.hid (HS2.out _ hs12 _ _ _ _ _ _ _ _ hPR)
                              have hB3 := hB3.next hs12
                              have hSW := hs12
                              clear hPR hW3 hW4 hW5 hW8 hW9 hge hone hs0 hs1 hs2 hs3 hs4 hs5 hs6 hs7 hs8 hs9 hs10 hs11 hs12
                              generalize ((wx60.alloc (.cells #[.slice none 0 0, .slice none 0 0, .slice none 0 0, .int .i64 0, .int .i64 0, .slice none 0 0, .slice none 0 0] 29)).setRow (wx60.heap.size) #[.slice p3 (pr1.length + pr2.length) q3, .slice p4 (pd1.length + pd2.length) q4, .slice p5 (cl1.length + cl2.length) q5, .int .i64 (max qu1 qu2), .int .i64 (max bu1 bu2), .slice p8 (ru1.length + ru2.length) q8, .slice p9 (gr1.length + gr2.length) q9]) = wq at *
                              generalize wx60.heap.size = gN at *
                              have k0 : wq.cell? ⟨g3, 0, none⟩ = some (.slice z3 pr3.length k3) := hB3.cell 0
                              have k1 : wq.cell? ⟨g3, 1, none⟩ = some (.slice z4 pd3.length k4) := hB3.cell 1
                              have k2 : wq.cell? ⟨g3, 2, none⟩ = some (.slice z5 cl3.length k5) := hB3.cell 2
                              have k3 : wq.cell? ⟨g3, 3, none⟩ = some (.int .i64 qu3) := hB3.cell 3
                              have k4 : wq.cell? ⟨g3, 4, none⟩ = some (.int .i64 bu3) := hB3.cell 4
                              have k5 : wq.cell? ⟨g3, 5, none⟩ = some (.slice z8 ru3.length k8) := hB3.cell 5
                              have k6 : wq.cell? ⟨g3, 6, none⟩ = some (.slice z9 gr3.length k9) := hB3.cell 6
                              have l0 : wq.cell? ⟨gN, 0, none⟩ = some (.slice p3 (pr1.length + pr2.length) q3) := hCel.cell 0
                              have l1 : wq.cell? ⟨gN, 1, none⟩ = some (.slice p4 (pd1.length + pd2.length) q4) := hCel.cell 1
                              have l2 : wq.cell? ⟨gN, 2, none⟩ = some (.slice p5 (cl1.length + cl2.length) q5) := hCel.cell 2
                              have l3 : wq.cell? ⟨gN, 3, none⟩ = some (.int .i64 (max qu1 qu2)) := hCel.cell 3
                              have l4 : wq.cell? ⟨gN, 4, none⟩ = some (.int .i64 (max bu1 bu2)) := hCel.cell 4
                              have l5 : wq.cell? ⟨gN, 5, none⟩ = some (.slice p8 (ru1.length + ru2.length) q8) := hCel.cell 5
                              have l6 : wq.cell? ⟨gN, 6, none⟩ = some (.slice p9 (gr1.length + gr2.length) q9) := hCel.cell 6
                              clear hB3 hCel
                              go_wp2_with fail
                              refine HC.out.mono ?_
                              rintro e wr ⟨rfl, hb⟩
                              have hSR := hSW.trans hb
                              clear k0 l0 k1 l1 k2 l2 k3 l3 k4 l4 k5 l5 k6 l6
                              go_wp2_with fail
                              go_meet
                              case rel => exact hSR
                            · have hs10 : Since wB (wx59.alloc (.cells #[.slice none 0 0, .slice none 0 0, .slice none 0 0, .int .i64 0, .int .i64 0, .slice none 0 0, .slice none 0 0] 29)) := hs9.alloc _
                              have hge : wB.heap.size ≤ wx59.heap.size := (hs9).size
                              replace hW3 := own_since hW3 (((Since.refl wx59).alloc (.cells #[.slice none 0 0, .slice none 0 0, .slice none 0 0, .int .i64 0, .int .i64 0, .slice none 0 0, .slice none 0 0] 29)))
                              replace hW4 := own_since hW4 (((Since.refl wx59).alloc (.cells #[.slice none 0 0, .slice none 0 0, .slice none 0 0, .int .i64 0, .int .i64 0, .slice none 0 0, .slice none 0 0] 29)))
                              replace hW5 := own_since hW5 (((Since.refl wx59).alloc (.cells #[.slice none 0 0, .slice none 0 0, .slice none 0 0, .int .i64 0, .int .i64 0, .slice none 0 0, .slice none 0 0] 29)))
                              replace hW8 := own_since hW8 (((Since.refl wx59).alloc (.cells #[.slice none 0 0, .slice none 0 0, .slice none 0 0, .int .i64 0, .int .i64 0, .slice none 0 0, .slice none 0 0] 29)))
                              replace hW9 := own_since hW9 (((Since.refl wx59).alloc (.cells #[.slice none 0 0, .slice none 0 0, .slice none 0 0, .int .i64 0, .int .i64 0, .slice none 0 0, .slice none 0 0] 29)))
                              have hCel : Cel (wx59.alloc (.cells #[.slice none 0 0, .slice none 0 0, .slice none 0 0, .int .i64 0, .int .i64 0, .slice none 0 0, .slice none 0 0] 29)) wx59.heap.size #[.slice none 0 0, .slice none 0 0, .slice none 0 0, .int .i64 0, .int .i64 0, .slice none 0 0, .slice none 0 0] 29 := heap_alloc_new _ _
                              refine wp_value (v := .pointer (some ⟨wx59.heap.size, 0, none⟩)) (w' := (wx59.alloc (.cells #[.slice none 0 0, .slice none 0 0, .slice none 0 0, .int .i64 0, .int .i64 0, .slice none 0 0, .slice none 0 0] 29))) rfl (by kernel_rfl) ⟨hs10, ?_⟩
                              refine hx_append (i := 39) (oi := _) (.tmp 99) (.tmp 101) 27 wB.heap.size 49 i9 (.agg #[.string ByteArray.empty, .string ByteArray.empty, .string ByteArray.empty, .int .i64 0, .bool false, .string ByteArray.empty, .bool false, .string ByteArray.empty, .bool false, .string ByteArray.empty, .bool false, .string ByteArray.empty, .slice none 0 0]) 13 176 (.slice b9 gr1.length d9) gr1.length X9 wB.heap.size x9 gr2.length y9 Y9 rfl rfl (by kernel_rfl) (by kernel_rfl) rfl Tryz.underlying27 I9.out.1 I9.out.2.1 I9.out.2.2.1 I9.out.2.2.2 rfl (by decide) (by kernel_rfl) hW9 (by kernel_rfl) (reads_next HRD9.out hs10) HOY9.out (by have := HLS.out.2.2.2.2; have := HLT.out.2.2.2.2; unfold maxLen; omega) (by have := HLS.out.2.2.2.2; have := HLT.out.2.2.2.2; omega) (hs10).size ?_
                              intro vn9 wx60 hX9 hg9 _
                              have hs11 : Since wB wx60 := since_grow hs10 hW9 (Nat.le_refl _) hg9
                              replace hW3 := own_other hW3 hW9 (by decide) hg9
                              replace hW4 := own_other hW4 hW9 (by decide) hg9
                              replace hW5 := own_other hW5 hW9 (by decide) hg9
                              replace hW8 := own_other hW8 hW9 (by decide) hg9
                              replace hCel := cel_own hCel hW9 (by decide) hg9
                              replace hW9 := hX9
                              clear hX9 hg9
                              obtain ⟨p9, q9, rfl⟩ := own_slice hW9
                              refine ⟨hs11, ?_⟩
                              refine hx_take (i := 40) (oi := _) (v := .agg #[.slice p3 (pr1.length + pr2.length) q3, .slice p4 (pd1.length + pd2.length) q4, .slice p5 (cl1.length + cl2.length) q5, .int .i64 (max qu1 qu2), .int .i64 (max bu1 bu2), .slice p8 (ru1.length + ru2.length) q8, .slice p9 (gr1.length + gr2.length) q9]) rfl rfl hns (by kernel_rfl) (by kernel_rfl) hQ (by kernel_rfl) (fun _ _ => by kernel_rfl) hs11 ?_
                              have hs12 : Since wB (wx60.setRow (wx59.heap.size) #[.slice p3 (pr1.length + pr2.length) q3, .slice p4 (pd1.length + pd2.length) q4, .slice p5 (cl1.length + cl2.length) q5, .int .i64 (max qu1 qu2), .int .i64 (max bu1 bu2), .slice p8 (ru1.length + ru2.length) q8, .slice p9 (gr1.length + gr2.length) q9]) := since_setRowP hs11 hge _
                              have hone : Hid ((#[.slice p3 (pr1.length + pr2.length) q3, .slice p4 (pd1.length + pd2.length) q4, .slice p5 (cl1.length + cl2.length) q5, .int .i64 (max qu1 qu2), .int .i64 (max bu1 bu2), .slice p8 (ru1.length + ru2.length) q8, .slice p9 (gr1.length + gr2.length) q9] : Array Value).all (·.oneCell') = true) := by show _ = _; simp [Value.oneCell']
                              refine hx_store (i := 42) (oi := _) (wx60.setRow (wx59.heap.size) #[.slice p3 (pr1.length + pr2.length) q3, .slice p4 (pd1.length + pd2.length) q4, .slice p5 (cl1.length + cl2.length) q5, .int .i64 (max qu1 qu2), .int .i64 (max bu1 bu2), .slice p8 (ru1.length + ru2.length) q8, .slice p9 (gr1.length + gr2.length) q9]) rfl rfl (by kernel_rfl) (by kernel_rfl) (st_rowP (old := #[.slice none 0 0, .slice none 0 0, .slice none 0 0, .int .i64 0, .int .i64 0, .slice none 0 0, .slice none 0 0]) (cells := #[.slice p3 (pr1.length + pr2.length) q3, .slice p4 (pd1.length + pd2.length) q4, .slice p5 (cl1.length + cl2.length) q5, .int .i64 (max qu1 qu2), .int .i64 (max bu1 bu2), .slice p8 (ru1.length + ru2.length) q8, .slice p9 (gr1.length + gr2.length) q9]) rfl (by kernel_rfl) (by kernel_rfl) (by kernel_rfl) rfl hone.out _ hCel) hs12 ?_
                              replace hW3 := own_setRow (ds := #[.slice p3 (pr1.length + pr2.length) q3, .slice p4 (pd1.length + pd2.length) q4, .slice p5 (cl1.length + cl2.length) q5, .int .i64 (max qu1 qu2), .int .i64 (max bu1 bu2), .slice p8 (ru1.length + ru2.length) q8, .slice p9 (gr1.length + gr2.length) q9]) hW3 hCel (by decide)
                              replace hW4 := own_setRow (ds := #[.slice p3 (pr1.length + pr2.length) q3, .slice p4 (pd1.length + pd2.length) q4, .slice p5 (cl1.length + cl2.length) q5, .int .i64 (max qu1 qu2), .int .i64 (max bu1 bu2), .slice p8 (ru1.length + ru2.length) q8, .slice p9 (gr1.length + gr2.length) q9]) hW4 hCel (by decide)
                              replace hW5 := own_setRow (ds := #[.slice p3 (pr1.length + pr2.length) q3, .slice p4 (pd1.length + pd2.length) q4, .slice p5 (cl1.length + cl2.length) q5, .int .i64 (max qu1 qu2), .int .i64 (max bu1 bu2), .slice p8 (ru1.length + ru2.length) q8, .slice p9 (gr1.length + gr2.length) q9]) hW5 hCel (by decide)
                              replace hW8 := own_setRow (ds := #[.slice p3 (pr1.length + pr2.length) q3, .slice p4 (pd1.length + pd2.length) q4, .slice p5 (cl1.length + cl2.length) q5, .int .i64 (max qu1 qu2), .int .i64 (max bu1 bu2), .slice p8 (ru1.length + ru2.length) q8, .slice p9 (gr1.length + gr2.length) q9]) hW8 hCel (by decide)
                              replace hW9 := own_setRow (ds := #[.slice p3 (pr1.length + pr2.length) q3, .slice p4 (pd1.length + pd2.length) q4, .slice p5 (cl1.length + cl2.length) q5, .int .i64 (max qu1 qu2), .int .i64 (max bu1 bu2), .slice p8 (ru1.length + ru2.length) q8, .slice p9 (gr1.length + gr2.length) q9]) hW9 hCel (by decide)
                              replace hCel := hCel.row #[.slice p3 (pr1.length + pr2.length) q3, .slice p4 (pd1.length + pd2.length) q4, .slice p5 (cl1.length + cl2.length) q5, .int .i64 (max qu1 qu2), .int .i64 (max bu1 bu2), .slice p8 (ru1.length + ru2.length) q8, .slice p9 (gr1.length + gr2.length) q9]
                              refine wpAnyH_done (by kernel_rfl) ?_ _
                              clear hns hQ
                              simp only [List.set_cons_zero, List.set_cons_succ]
                              obtain ⟨C, U, G, hPR⟩ := HBOTH.out _ _ _ _ _ _ _ hs12 hW3 hW4 hW5 hW8 hW9
                              have HC := Lib.hid (HS2.out _ hs12 _ _ _ _ _ _ _ _ hPR)
                              have hB3 := hB3.next hs12
                              have hSW := hs12
                              clear hPR hW3 hW4 hW5 hW8 hW9 hge hone hs0 hs1 hs2 hs3 hs4 hs5 hs6 hs7 hs8 hs9 hs10 hs11 hs12
                              generalize (wx60.setRow (wx59.heap.size) #[.slice p3 (pr1.length + pr2.length) q3, .slice p4 (pd1.length + pd2.length) q4, .slice p5 (cl1.length + cl2.length) q5, .int .i64 (max qu1 qu2), .int .i64 (max bu1 bu2), .slice p8 (ru1.length + ru2.length) q8, .slice p9 (gr1.length + gr2.length) q9]) = wq at *
                              generalize wx59.heap.size = gN at *
                              have k0 : wq.cell? ⟨g3, 0, none⟩ = some (.slice z3 pr3.length k3) := hB3.cell 0
                              have k1 : wq.cell? ⟨g3, 1, none⟩ = some (.slice z4 pd3.length k4) := hB3.cell 1
                              have k2 : wq.cell? ⟨g3, 2, none⟩ = some (.slice z5 cl3.length k5) := hB3.cell 2
                              have k3 : wq.cell? ⟨g3, 3, none⟩ = some (.int .i64 qu3) := hB3.cell 3
                              have k4 : wq.cell? ⟨g3, 4, none⟩ = some (.int .i64 bu3) := hB3.cell 4
                              have k5 : wq.cell? ⟨g3, 5, none⟩ = some (.slice z8 ru3.length k8) := hB3.cell 5
                              have k6 : wq.cell? ⟨g3, 6, none⟩ = some (.slice z9 gr3.length k9) := hB3.cell 6
                              have l0 : wq.cell? ⟨gN, 0, none⟩ = some (.slice p3 (pr1.length + pr2.length) q3) := hCel.cell 0
                              have l1 : wq.cell? ⟨gN, 1, none⟩ = some (.slice p4 (pd1.length + pd2.length) q4) := hCel.cell 1
                              have l2 : wq.cell? ⟨gN, 2, none⟩ = some (.slice p5 (cl1.length + cl2.length) q5) := hCel.cell 2
                              have l3 : wq.cell? ⟨gN, 3, none⟩ = some (.int .i64 (max qu1 qu2)) := hCel.cell 3
                              have l4 : wq.cell? ⟨gN, 4, none⟩ = some (.int .i64 (max bu1 bu2)) := hCel.cell 4
                              have l5 : wq.cell? ⟨gN, 5, none⟩ = some (.slice p8 (ru1.length + ru2.length) q8) := hCel.cell 5
                              have l6 : wq.cell? ⟨gN, 6, none⟩ = some (.slice p9 (gr1.length + gr2.length) q9) := hCel.cell 6
                              clear hB3 hCel
                              go_wp2_with fail
                              refine HC.out.mono ?_
                              rintro e wr ⟨rfl, hb⟩
                              have hSR := hSW.trans hb
                              clear k0 l0 k1 l1 k2 l2 k3 l3 k4 l4 k5 l5 k6 l6
                              go_wp2_with fail
                              go_meet
                              case rel => exact hSR
                          · have hs9 : Since wB (wx58.alloc (.cells #[.slice none 0 0, .slice none 0 0, .slice none 0 0, .int .i64 0, .int .i64 0, .slice none 0 0, .slice none 0 0] 29)) := hs8.alloc _
                            have hge : wB.heap.size ≤ wx58.heap.size := (hs8).size
                            replace hW3 := own_since hW3 (((Since.refl wx58).alloc (.cells #[.slice none 0 0, .slice none 0 0, .slice none 0 0, .int .i64 0, .int .i64 0, .slice none 0 0, .slice none 0 0] 29)))
                            replace hW4 := own_since hW4 (((Since.refl wx58).alloc (.cells #[.slice none 0 0, .slice none 0 0, .slice none 0 0, .int .i64 0, .int .i64 0, .slice none 0 0, .slice none 0 0] 29)))
                            replace hW5 := own_since hW5 (((Since.refl wx58).alloc (.cells #[.slice none 0 0, .slice none 0 0, .slice none 0 0, .int .i64 0, .int .i64 0, .slice none 0 0, .slice none 0 0] 29)))
                            replace hW8 := own_since hW8 (((Since.refl wx58).alloc (.cells #[.slice none 0 0, .slice none 0 0, .slice none 0 0, .int .i64 0, .int .i64 0, .slice none 0 0, .slice none 0 0] 29)))
                            have hCel : Cel (wx58.alloc (.cells #[.slice none 0 0, .slice none 0 0, .slice none 0 0, .int .i64 0, .int .i64 0, .slice none 0 0, .slice none 0 0] 29)) wx58.heap.size #[.slice none 0 0, .slice none 0 0, .slice none 0 0, .int .i64 0, .int .i64 0, .slice none 0 0, .slice none 0 0] 29 := heap_alloc_new _ _
                            refine hx_call (i := 36) (oi := _) 35 #[.slice a9 gr1.length e9] rfl rfl (by kernel_rfl) (by kernel_rfl) (by kernel_rfl) (ownR_grn _ _ _ _ _ (own_since HX9.out hs9) HOX9.out (by have := HLS.out.2.2.2.2; omega)) ?_
                            rintro e wx59 ⟨v9, rfl, hW9, hb⟩
                            have hs10 : Since wB wx59 := hs9.trans hb
                            replace hW3 := own_since hW3 (hb)
                            replace hW4 := own_since hW4 (hb)
                            replace hW5 := own_since hW5 (hb)
                            replace hW8 := own_since hW8 (hb)
                            replace hCel := hCel.next hb
                            replace hW9 := own_base hW9 (hs9).size
                            obtain ⟨b9, d9, rfl⟩ := own_slice hW9
                            clear hb
                            refine ⟨_, rfl, hs10, ?_⟩
                            refine hx_append (i := 39) (oi := _) (.tmp 99) (.tmp 101) 27 wB.heap.size 49 i9 (.agg #[.string ByteArray.empty, .string ByteArray.empty, .string ByteArray.empty, .int .i64 0, .bool false, .string ByteArray.empty, .bool false, .string ByteArray.empty, .bool false, .string ByteArray.empty, .bool false, .string ByteArray.empty, .slice none 0 0]) 13 176 (.slice b9 gr1.length d9) gr1.length X9 wB.heap.size x9 gr2.length y9 Y9 rfl rfl (by kernel_rfl) (by kernel_rfl) rfl Tryz.underlying27 I9.out.1 I9.out.2.1 I9.out.2.2.1 I9.out.2.2.2 rfl (by decide) (by kernel_rfl) hW9 (by kernel_rfl) (reads_next HRD9.out hs10) HOY9.out (by have := HLS.out.2.2.2.2; have := HLT.out.2.2.2.2; unfold maxLen; omega) (by have := HLS.out.2.2.2.2; have := HLT.out.2.2.2.2; omega) (hs10).size ?_
                            intro vn9 wx60 hX9 hg9 _
                            have hs11 : Since wB wx60 := since_grow hs10 hW9 (Nat.le_refl _) hg9
                            replace hW3 := own_other hW3 hW9 (by decide) hg9
                            replace hW4 := own_other hW4 hW9 (by decide) hg9
                            replace hW5 := own_other hW5 hW9 (by decide) hg9
                            replace hW8 := own_other hW8 hW9 (by decide) hg9
                            replace hCel := cel_own hCel hW9 (by decide) hg9
                            replace hW9 := hX9
                            clear hX9 hg9
                            obtain ⟨p9, q9, rfl⟩ := own_slice hW9
                            refine ⟨hs11, ?_⟩
                            refine hx_take (i := 40) (oi := _) (v := .agg #[.slice p3 (pr1.length + pr2.length) q3, .slice p4 (pd1.length + pd2.length) q4, .slice p5 (cl1.length + cl2.length) q5, .int .i64 (max qu1 qu2), .int .i64 (max bu1 bu2), .slice p8 (ru1.length + ru2.length) q8, .slice p9 (gr1.length + gr2.length) q9]) rfl rfl hns (by kernel_rfl) (by kernel_rfl) hQ (by kernel_rfl) (fun _ _ => by kernel_rfl) hs11 ?_
                            have hs12 : Since wB (wx60.setRow (wx58.heap.size) #[.slice p3 (pr1.length + pr2.length) q3, .slice p4 (pd1.length + pd2.length) q4, .slice p5 (cl1.length + cl2.length) q5, .int .i64 (max qu1 qu2), .int .i64 (max bu1 bu2), .slice p8 (ru1.length + ru2.length) q8, .slice p9 (gr1.length + gr2.length) q9]) := since_setRowP hs11 hge _
                            have hone : Hid ((#[.slice p3 (pr1.length + pr2.length) q3, .slice p4 (pd1.length + pd2.length) q4, .slice p5 (cl1.length + cl2.length) q5, .int .i64 (max qu1 qu2), .int .i64 (max bu1 bu2), .slice p8 (ru1.length + ru2.length) q8, .slice p9 (gr1.length + gr2.length) q9] : Array Value).all (·.oneCell') = true) := by show _ = _; simp [Value.oneCell']
                            refine hx_store (i := 42) (oi := _) (wx60.setRow (wx58.heap.size) #[.slice p3 (pr1.length + pr2.length) q3, .slice p4 (pd1.length + pd2.length) q4, .slice p5 (cl1.length + cl2.length) q5, .int .i64 (max qu1 qu2), .int .i64 (max bu1 bu2), .slice p8 (ru1.length + ru2.length) q8, .slice p9 (gr1.length + gr2.length) q9]) rfl rfl (by kernel_rfl) (by kernel_rfl) (st_rowP (old := #[.slice none 0 0, .slice none 0 0, .slice none 0 0, .int .i64 0, .int .i64 0, .slice none 0 0, .slice none 0 0]) (cells := #[.slice p3 (pr1.length + pr2.length) q3, .slice p4 (pd1.length + pd2.length) q4, .slice p5 (cl1.length + cl2.length) q5, .int .i64 (max qu1 qu2), .int .i64 (max bu1 bu2), .slice p8 (ru1.length + ru2.length) q8, .slice p9 (gr1.length + gr2.length) q9]) rfl (by kernel_rfl) (by kernel_rfl) (by kernel_rfl) rfl hone.out _ hCel) hs12 ?_
                            replace hW3 := own_setRow (ds := #[.slice p3 (pr1.length + pr2.length) q3, .slice p4 (pd1.length + pd2.length) q4, .slice p5 (cl1.length + cl2.length) q5, .int .i64 (max qu1 qu2), .int .i64 (max bu1 bu2), .slice p8 (ru1.length + ru2.length) q8, .slice p9 (gr1.length + gr2.length) q9]) hW3 hCel (by decide)
                            replace hW4 := own_setRow (ds := #[.slice p3 (pr1.length + pr2.length) q3, .slice p4 (pd1.length + pd2.length) q4, .slice p5 (cl1.length + cl2.length) q5, .int .i64 (max qu1 qu2), .int .i64 (max bu1 bu2), .slice p8 (ru1.length + ru2.length) q8, .slice p9 (gr1.length + gr2.length) q9]) hW4 hCel (by decide)
                            replace hW5 := own_setRow (ds := #[.slice p3 (pr1.length + pr2.length) q3, .slice p4 (pd1.length + pd2.length) q4, .slice p5 (cl1.length + cl2.length) q5, .int .i64 (max qu1 qu2), .int .i64 (max bu1 bu2), .slice p8 (ru1.length + ru2.length) q8, .slice p9 (gr1.length + gr2.length) q9]) hW5 hCel (by decide)
                            replace hW8 := own_setRow (ds := #[.slice p3 (pr1.length + pr2.length) q3, .slice p4 (pd1.length + pd2.length) q4, .slice p5 (cl1.length + cl2.length) q5, .int .i64 (max qu1 qu2), .int .i64 (max bu1 bu2), .slice p8 (ru1.length + ru2.length) q8, .slice p9 (gr1.length + gr2.length) q9]) hW8 hCel (by decide)
                            replace hW9 := own_setRow (ds := #[.slice p3 (pr1.length + pr2.length) q3, .slice p4 (pd1.length + pd2.length) q4, .slice p5 (cl1.length + cl2.length) q5, .int .i64 (max qu1 qu2), .int .i64 (max bu1 bu2), .slice p8 (ru1.length + ru2.length) q8, .slice p9 (gr1.length + gr2.length) q9]) hW9 hCel (by decide)
                            replace hCel := hCel.row #[.slice p3 (pr1.length + pr2.length) q3, .slice p4 (pd1.length + pd2.length) q4, .slice p5 (cl1.length + cl2.length) q5, .int .i64 (max qu1 qu2), .int .i64 (max bu1 bu2), .slice p8 (ru1.length + ru2.length) q8, .slice p9 (gr1.length + gr2.length) q9]
                            refine wpAnyH_done (by kernel_rfl) ?_ _
                            clear hns hQ
                            simp only [List.set_cons_zero, List.set_cons_succ]
                            obtain ⟨C, U, G, hPR⟩ := HBOTH.out _ _ _ _ _ _ _ hs12 hW3 hW4 hW5 hW8 hW9
                            have HC := Lib.hid (HS2.out _ hs12 _ _ _ _ _ _ _ _ hPR)
                            have hB3 := hB3.next hs12
                            have hSW := hs12
                            clear hPR hW3 hW4 hW5 hW8 hW9 hge hone hs0 hs1 hs2 hs3 hs4 hs5 hs6 hs7 hs8 hs9 hs10 hs11 hs12
                            generalize (wx60.setRow (wx58.heap.size) #[.slice p3 (pr1.length + pr2.length) q3, .slice p4 (pd1.length + pd2.length) q4, .slice p5 (cl1.length + cl2.length) q5, .int .i64 (max qu1 qu2), .int .i64 (max bu1 bu2), .slice p8 (ru1.length + ru2.length) q8, .slice p9 (gr1.length + gr2.length) q9]) = wq at *
                            generalize wx58.heap.size = gN at *
                            have k0 : wq.cell? ⟨g3, 0, none⟩ = some (.slice z3 pr3.length k3) := hB3.cell 0
                            have k1 : wq.cell? ⟨g3, 1, none⟩ = some (.slice z4 pd3.length k4) := hB3.cell 1
                            have k2 : wq.cell? ⟨g3, 2, none⟩ = some (.slice z5 cl3.length k5) := hB3.cell 2
                            have k3 : wq.cell? ⟨g3, 3, none⟩ = some (.int .i64 qu3) := hB3.cell 3
                            have k4 : wq.cell? ⟨g3, 4, none⟩ = some (.int .i64 bu3) := hB3.cell 4
                            have k5 : wq.cell? ⟨g3, 5, none⟩ = some (.slice z8 ru3.length k8) := hB3.cell 5
                            have k6 : wq.cell? ⟨g3, 6, none⟩ = some (.slice z9 gr3.length k9) := hB3.cell 6
                            have l0 : wq.cell? ⟨gN, 0, none⟩ = some (.slice p3 (pr1.length + pr2.length) q3) := hCel.cell 0
                            have l1 : wq.cell? ⟨gN, 1, none⟩ = some (.slice p4 (pd1.length + pd2.length) q4) := hCel.cell 1
                            have l2 : wq.cell? ⟨gN, 2, none⟩ = some (.slice p5 (cl1.length + cl2.length) q5) := hCel.cell 2
                            have l3 : wq.cell? ⟨gN, 3, none⟩ = some (.int .i64 (max qu1 qu2)) := hCel.cell 3
                            have l4 : wq.cell? ⟨gN, 4, none⟩ = some (.int .i64 (max bu1 bu2)) := hCel.cell 4
                            have l5 : wq.cell? ⟨gN, 5, none⟩ = some (.slice p8 (ru1.length + ru2.length) q8) := hCel.cell 5
                            have l6 : wq.cell? ⟨gN, 6, none⟩ = some (.slice p9 (gr1.length + gr2.length) q9) := hCel.cell 6
                            clear hB3 hCel
                            go_wp2_with fail
                            refine HC.out.mono ?_
                            rintro e wr ⟨rfl, hb⟩
                            have hSR := hSW.trans hb
                            clear k0 l0 k1 l1 k2 l2 k3 l3 k4 l4 k5 l5 k6 l6
                            go_wp2_with fail
                            go_meet
                            case rel => exact hSR
                        · have hs8 : Since wB (wx57.alloc (.cells #[.slice none 0 0, .slice none 0 0, .slice none 0 0, .int .i64 0, .int .i64 0, .slice none 0 0, .slice none 0 0] 29)) := hs7.alloc _
                          have hge : wB.heap.size ≤ wx57.heap.size := (hs7).size
                          replace hW3 := own_since hW3 (((Since.refl wx57).alloc (.cells #[.slice none 0 0, .slice none 0 0, .slice none 0 0, .int .i64 0, .int .i64 0, .slice none 0 0, .slice none 0 0] 29)))
                          replace hW4 := own_since hW4 (((Since.refl wx57).alloc (.cells #[.slice none 0 0, .slice none 0 0, .slice none 0 0, .int .i64 0, .int .i64 0, .slice none 0 0, .slice none 0 0] 29)))
                          replace hW5 := own_since hW5 (((Since.refl wx57).alloc (.cells #[.slice none 0 0, .slice none 0 0, .slice none 0 0, .int .i64 0, .int .i64 0, .slice none 0 0, .slice none 0 0] 29)))
                          replace hW8 := own_since hW8 (((Since.refl wx57).alloc (.cells #[.slice none 0 0, .slice none 0 0, .slice none 0 0, .int .i64 0, .int .i64 0, .slice none 0 0, .slice none 0 0] 29)))
                          have hCel : Cel (wx57.alloc (.cells #[.slice none 0 0, .slice none 0 0, .slice none 0 0, .int .i64 0, .int .i64 0, .slice none 0 0, .slice none 0 0] 29)) wx57.heap.size #[.slice none 0 0, .slice none 0 0, .slice none 0 0, .int .i64 0, .int .i64 0, .slice none 0 0, .slice none 0 0] 29 := heap_alloc_new _ _
                          refine wp_value (v := .pointer (some ⟨wx57.heap.size, 0, none⟩)) (w' := (wx57.alloc (.cells #[.slice none 0 0, .slice none 0 0, .slice none 0 0, .int .i64 0, .int .i64 0, .slice none 0 0, .slice none 0 0] 29))) rfl (by kernel_rfl) ⟨hs8, ?_⟩
                          refine hx_append (i := 33) (oi := _) (.tmp 93) (.tmp 95) 26 wB.heap.size 47 i8 (.agg #[.string ByteArray.empty, .string ByteArray.empty, .int .i64 0, .bool false, .string ByteArray.empty, .bool false, .string ByteArray.empty, .bool false, .string ByteArray.empty, .bool false, .string ByteArray.empty, .slice none 0 0]) 12 160 (.slice b8 ru1.length d8) ru1.length X8 wB.heap.size x8 ru2.length y8 Y8 rfl rfl (by kernel_rfl) (by kernel_rfl) rfl Tryz.underlying26 I8.out.1 I8.out.2.1 I8.out.2.2.1 I8.out.2.2.2 rfl (by decide) (by kernel_rfl) hW8 (by kernel_rfl) (reads_next HRD8.out hs8) HOY8.out (by have := HLS.out.2.2.2.1; have := HLT.out.2.2.2.1; unfold maxLen; omega) (by have := HLS.out.2.2.2.1; have := HLT.out.2.2.2.1; omega) (hs8).size ?_
                          intro vn8 wx58 hX8 hg8 _
                          have hs9 : Since wB wx58 := since_grow hs8 hW8 (Nat.le_refl _) hg8
                          replace hW3 := own_other hW3 hW8 (by decide) hg8
                          replace hW4 := own_other hW4 hW8 (by decide) hg8
                          replace hW5 := own_other hW5 hW8 (by decide) hg8
                          replace hCel := cel_own hCel hW8 (by decide) hg8
                          replace hW8 := hX8
                          clear hX8 hg8
                          obtain ⟨p8, q8, rfl⟩ := own_slice hW8
                          refine ⟨hs9, ?_⟩
                          refine hx_call (i := 36) (oi := _) 35 #[.slice a9 gr1.length e9] rfl rfl (by kernel_rfl) (by kernel_rfl) (by kernel_rfl) (ownR_grn _ _ _ _ _ (own_since HX9.out hs9) HOX9.out (by have := HLS.out.2.2.2.2; omega)) ?_
                          rintro e wx59 ⟨v9, rfl, hW9, hb⟩
                          have hs10 : Since wB wx59 := hs9.trans hb
                          replace hW3 := own_since hW3 (hb)
                          replace hW4 := own_since hW4 (hb)
                          replace hW5 := own_since hW5 (hb)
                          replace hW8 := own_since hW8 (hb)
                          replace hCel := hCel.next hb
                          replace hW9 := own_base hW9 (hs9).size
                          obtain ⟨b9, d9, rfl⟩ := own_slice hW9
                          clear hb
                          refine ⟨_, rfl, hs10, ?_⟩
                          refine hx_append (i := 39) (oi := _) (.tmp 99) (.tmp 101) 27 wB.heap.size 49 i9 (.agg #[.string ByteArray.empty, .string ByteArray.empty, .string ByteArray.empty, .int .i64 0, .bool false, .string ByteArray.empty, .bool false, .string ByteArray.empty, .bool false, .string ByteArray.empty, .bool false, .string ByteArray.empty, .slice none 0 0]) 13 176 (.slice b9 gr1.length d9) gr1.length X9 wB.heap.size x9 gr2.length y9 Y9 rfl rfl (by kernel_rfl) (by kernel_rfl) rfl Tryz.underlying27 I9.out.1 I9.out.2.1 I9.out.2.2.1 I9.out.2.2.2 rfl (by decide) (by kernel_rfl) hW9 (by kernel_rfl) (reads_next HRD9.out hs10) HOY9.out (by have := HLS.out.2.2.2.2; have := HLT.out.2.2.2.2; unfold maxLen; omega) (by have := HLS.out.2.2.2.2; have := HLT.out.2.2.2.2; omega) (hs10).size ?_
                          intro vn9 wx60 hX9 hg9 _
                          have hs11 : Since wB wx60 := since_grow hs10 hW9 (Nat.le_refl _) hg9
                          replace hW3 := own_other hW3 hW9 (by decide) hg9
                          replace hW4 := own_other hW4 hW9 (by decide) hg9
                          replace hW5 := own_other hW5 hW9 (by decide) hg9
                          replace hW8 := own_other hW8 hW9 (by decide) hg9
                          replace hCel := cel_own hCel hW9 (by decide) hg9
                          replace hW9 := hX9
                          clear hX9 hg9
                          obtain ⟨p9, q9, rfl⟩ := own_slice hW9
                          refine ⟨hs11, ?_⟩
                          refine hx_take (i := 40) (oi := _) (v := .agg #[.slice p3 (pr1.length + pr2.length) q3, .slice p4 (pd1.length + pd2.length) q4, .slice p5 (cl1.length + cl2.length) q5, .int .i64 (max qu1 qu2), .int .i64 (max bu1 bu2), .slice p8 (ru1.length + ru2.length) q8, .slice p9 (gr1.length + gr2.length) q9]) rfl rfl hns (by kernel_rfl) (by kernel_rfl) hQ (by kernel_rfl) (fun _ _ => by kernel_rfl) hs11 ?_
                          have hs12 : Since wB (wx60.setRow (wx57.heap.size) #[.slice p3 (pr1.length + pr2.length) q3, .slice p4 (pd1.length + pd2.length) q4, .slice p5 (cl1.length + cl2.length) q5, .int .i64 (max qu1 qu2), .int .i64 (max bu1 bu2), .slice p8 (ru1.length + ru2.length) q8, .slice p9 (gr1.length + gr2.length) q9]) := since_setRowP hs11 hge _
                          have hone : Hid ((#[.slice p3 (pr1.length + pr2.length) q3, .slice p4 (pd1.length + pd2.length) q4, .slice p5 (cl1.length + cl2.length) q5, .int .i64 (max qu1 qu2), .int .i64 (max bu1 bu2), .slice p8 (ru1.length + ru2.length) q8, .slice p9 (gr1.length + gr2.length) q9] : Array Value).all (·.oneCell') = true) := by show _ = _; simp [Value.oneCell']
                          refine hx_store (i := 42) (oi := _) (wx60.setRow (wx57.heap.size) #[.slice p3 (pr1.length + pr2.length) q3, .slice p4 (pd1.length + pd2.length) q4, .slice p5 (cl1.length + cl2.length) q5, .int .i64 (max qu1 qu2), .int .i64 (max bu1 bu2), .slice p8 (ru1.length + ru2.length) q8, .slice p9 (gr1.length + gr2.length) q9]) rfl rfl (by kernel_rfl) (by kernel_rfl) (st_rowP (old := #[.slice none 0 0, .slice none 0 0, .slice none 0 0, .int .i64 0, .int .i64 0, .slice none 0 0, .slice none 0 0]) (cells := #[.slice p3 (pr1.length + pr2.length) q3, .slice p4 (pd1.length + pd2.length) q4, .slice p5 (cl1.length + cl2.length) q5, .int .i64 (max qu1 qu2), .int .i64 (max bu1 bu2), .slice p8 (ru1.length + ru2.length) q8, .slice p9 (gr1.length + gr2.length) q9]) rfl (by kernel_rfl) (by kernel_rfl) (by kernel_rfl) rfl hone.out _ hCel) hs12 ?_
                          replace hW3 := own_setRow (ds := #[.slice p3 (pr1.length + pr2.length) q3, .slice p4 (pd1.length + pd2.length) q4, .slice p5 (cl1.length + cl2.length) q5, .int .i64 (max qu1 qu2), .int .i64 (max bu1 bu2), .slice p8 (ru1.length + ru2.length) q8, .slice p9 (gr1.length + gr2.length) q9]) hW3 hCel (by decide)
                          replace hW4 := own_setRow (ds := #[.slice p3 (pr1.length + pr2.length) q3, .slice p4 (pd1.length + pd2.length) q4, .slice p5 (cl1.length + cl2.length) q5, .int .i64 (max qu1 qu2), .int .i64 (max bu1 bu2), .slice p8 (ru1.length + ru2.length) q8, .slice p9 (gr1.length + gr2.length) q9]) hW4 hCel (by decide)
                          replace hW5 := own_setRow (ds := #[.slice p3 (pr1.length + pr2.length) q3, .slice p4 (pd1.length + pd2.length) q4, .slice p5 (cl1.length + cl2.length) q5, .int .i64 (max qu1 qu2), .int .i64 (max bu1 bu2), .slice p8 (ru1.length + ru2.length) q8, .slice p9 (gr1.length + gr2.length) q9]) hW5 hCel (by decide)
                          replace hW8 := own_setRow (ds := #[.slice p3 (pr1.length + pr2.length) q3, .slice p4 (pd1.length + pd2.length) q4, .slice p5 (cl1.length + cl2.length) q5, .int .i64 (max qu1 qu2), .int .i64 (max bu1 bu2), .slice p8 (ru1.length + ru2.length) q8, .slice p9 (gr1.length + gr2.length) q9]) hW8 hCel (by decide)
                          replace hW9 := own_setRow (ds := #[.slice p3 (pr1.length + pr2.length) q3, .slice p4 (pd1.length + pd2.length) q4, .slice p5 (cl1.length + cl2.length) q5, .int .i64 (max qu1 qu2), .int .i64 (max bu1 bu2), .slice p8 (ru1.length + ru2.length) q8, .slice p9 (gr1.length + gr2.length) q9]) hW9 hCel (by decide)
                          replace hCel := hCel.row #[.slice p3 (pr1.length + pr2.length) q3, .slice p4 (pd1.length + pd2.length) q4, .slice p5 (cl1.length + cl2.length) q5, .int .i64 (max qu1 qu2), .int .i64 (max bu1 bu2), .slice p8 (ru1.length + ru2.length) q8, .slice p9 (gr1.length + gr2.length) q9]
                          refine wpAnyH_done (by kernel_rfl) ?_ _
                          clear hns hQ
                          simp only [List.set_cons_zero, List.set_cons_succ]
                          obtain ⟨C, U, G, hPR⟩ := HBOTH.out _ _ _ _ _ _ _ hs12 hW3 hW4 hW5 hW8 hW9
                          have HC := Lib.hid (HS2.out _ hs12 _ _ _ _ _ _ _ _ hPR)
                          have hB3 := hB3.next hs12
                          have hSW := hs12
                          clear hPR hW3 hW4 hW5 hW8 hW9 hge hone hs0 hs1 hs2 hs3 hs4 hs5 hs6 hs7 hs8 hs9 hs10 hs11 hs12
                          generalize (wx60.setRow (wx57.heap.size) #[.slice p3 (pr1.length + pr2.length) q3, .slice p4 (pd1.length + pd2.length) q4, .slice p5 (cl1.length + cl2.length) q5, .int .i64 (max qu1 qu2), .int .i64 (max bu1 bu2), .slice p8 (ru1.length + ru2.length) q8, .slice p9 (gr1.length + gr2.length) q9]) = wq at *
                          generalize wx57.heap.size = gN at *
                          have k0 : wq.cell? ⟨g3, 0, none⟩ = some (.slice z3 pr3.length k3) := hB3.cell 0
                          have k1 : wq.cell? ⟨g3, 1, none⟩ = some (.slice z4 pd3.length k4) := hB3.cell 1
                          have k2 : wq.cell? ⟨g3, 2, none⟩ = some (.slice z5 cl3.length k5) := hB3.cell 2
                          have k3 : wq.cell? ⟨g3, 3, none⟩ = some (.int .i64 qu3) := hB3.cell 3
                          have k4 : wq.cell? ⟨g3, 4, none⟩ = some (.int .i64 bu3) := hB3.cell 4
                          have k5 : wq.cell? ⟨g3, 5, none⟩ = some (.slice z8 ru3.length k8) := hB3.cell 5
                          have k6 : wq.cell? ⟨g3, 6, none⟩ = some (.slice z9 gr3.length k9) := hB3.cell 6
                          have l0 : wq.cell? ⟨gN, 0, none⟩ = some (.slice p3 (pr1.length + pr2.length) q3) := hCel.cell 0
                          have l1 : wq.cell? ⟨gN, 1, none⟩ = some (.slice p4 (pd1.length + pd2.length) q4) := hCel.cell 1
                          have l2 : wq.cell? ⟨gN, 2, none⟩ = some (.slice p5 (cl1.length + cl2.length) q5) := hCel.cell 2
                          have l3 : wq.cell? ⟨gN, 3, none⟩ = some (.int .i64 (max qu1 qu2)) := hCel.cell 3
                          have l4 : wq.cell? ⟨gN, 4, none⟩ = some (.int .i64 (max bu1 bu2)) := hCel.cell 4
                          have l5 : wq.cell? ⟨gN, 5, none⟩ = some (.slice p8 (ru1.length + ru2.length) q8) := hCel.cell 5
                          have l6 : wq.cell? ⟨gN, 6, none⟩ = some (.slice p9 (gr1.length + gr2.length) q9) := hCel.cell 6
                          clear hB3 hCel
                          go_wp2_with fail
                          refine HC.out.mono ?_
                          rintro e wr ⟨rfl, hb⟩
                          have hSR := hSW.trans hb
                          clear k0 l0 k1 l1 k2 l2 k3 l3 k4 l4 k5 l5 k6 l6
                          go_wp2_with fail
                          go_meet
                          case rel => exact hSR
                      · have hs7 : Since wB (wx56.alloc (.cells #[.slice none 0 0, .slice none 0 0, .slice none 0 0, .int .i64 0, .int .i64 0, .slice none 0 0, .slice none 0 0] 29)) := hs6.alloc _
                        have hge : wB.heap.size ≤ wx56.heap.size := (hs6).size
                        replace hW3 := own_since hW3 (((Since.refl wx56).alloc (.cells #[.slice none 0 0, .slice none 0 0, .slice none 0 0, .int .i64 0, .int .i64 0, .slice none 0 0, .slice none 0 0] 29)))
                        replace hW4 := own_since hW4 (((Since.refl wx56).alloc (.cells #[.slice none 0 0, .slice none 0 0, .slice none 0 0, .int .i64 0, .int .i64 0, .slice none 0 0, .slice none 0 0] 29)))
                        replace hW5 := own_since hW5 (((Since.refl wx56).alloc (.cells #[.slice none 0 0, .slice none 0 0, .slice none 0 0, .int .i64 0, .int .i64 0, .slice none 0 0, .slice none 0 0] 29)))
                        have hCel : Cel (wx56.alloc (.cells #[.slice none 0 0, .slice none 0 0, .slice none 0 0, .int .i64 0, .int .i64 0, .slice none 0 0, .slice none 0 0] 29)) wx56.heap.size #[.slice none 0 0, .slice none 0 0, .slice none 0 0, .int .i64 0, .int .i64 0, .slice none 0 0, .slice none 0 0] 29 := heap_alloc_new _ _
                        refine hx_call (i := 30) (oi := _) 34 #[.slice a8 ru1.length e8] rfl rfl (by kernel_rfl) (by kernel_rfl) (by kernel_rfl) (ownR_rul _ _ _ _ _ (own_since HX8.out hs7) HOX8.out (by have := HLS.out.2.2.2.1; omega)) ?_
                        rintro e wx57 ⟨v8, rfl, hW8, hb⟩
                        have hs8 : Since wB wx57 := hs7.trans hb
                        replace hW3 := own_since hW3 (hb)
                        replace hW4 := own_since hW4 (hb)
                        replace hW5 := own_since hW5 (hb)
                        replace hCel := hCel.next hb
                        replace hW8 := own_base hW8 (hs7).size
                        obtain ⟨b8, d8, rfl⟩ := own_slice hW8
                        clear hb
                        refine ⟨_, rfl, hs8, ?_⟩
                        refine hx_append (i := 33) (oi := _) (.tmp 93) (.tmp 95) 26 wB.heap.size 47 i8 (.agg #[.string ByteArray.empty, .string ByteArray.empty, .int .i64 0, .bool false, .string ByteArray.empty, .bool false, .string ByteArray.empty, .bool false, .string ByteArray.empty, .bool false, .string ByteArray.empty, .slice none 0 0]) 12 160 (.slice b8 ru1.length d8) ru1.length X8 wB.heap.size x8 ru2.length y8 Y8 rfl rfl (by kernel_rfl) (by kernel_rfl) rfl Tryz.underlying26 I8.out.1 I8.out.2.1 I8.out.2.2.1 I8.out.2.2.2 rfl (by decide) (by kernel_rfl) hW8 (by kernel_rfl) (reads_next HRD8.out hs8) HOY8.out (by have := HLS.out.2.2.2.1; have := HLT.out.2.2.2.1; unfold maxLen; omega) (by have := HLS.out.2.2.2.1; have := HLT.out.2.2.2.1; omega) (hs8).size ?_
                        intro vn8 wx58 hX8 hg8 _
                        have hs9 : Since wB wx58 := since_grow hs8 hW8 (Nat.le_refl _) hg8
                        replace hW3 := own_other hW3 hW8 (by decide) hg8
                        replace hW4 := own_other hW4 hW8 (by decide) hg8
                        replace hW5 := own_other hW5 hW8 (by decide) hg8
                        replace hCel := cel_own hCel hW8 (by decide) hg8
                        replace hW8 := hX8
                        clear hX8 hg8
                        obtain ⟨p8, q8, rfl⟩ := own_slice hW8
                        refine ⟨hs9, ?_⟩
                        refine hx_call (i := 36) (oi := _) 35 #[.slice a9 gr1.length e9] rfl rfl (by kernel_rfl) (by kernel_rfl) (by kernel_rfl) (ownR_grn _ _ _ _ _ (own_since HX9.out hs9) HOX9.out (by have := HLS.out.2.2.2.2; omega)) ?_
                        rintro e wx59 ⟨v9, rfl, hW9, hb⟩
                        have hs10 : Since wB wx59 := hs9.trans hb
                        replace hW3 := own_since hW3 (hb)
                        replace hW4 := own_since hW4 (hb)
                        replace hW5 := own_since hW5 (hb)
                        replace hCel := hCel.next hb
                        replace hW8 := own_since hW8 (hb)
                        replace hW9 := own_base hW9 (hs9).size
                        obtain ⟨b9, d9, rfl⟩ := own_slice hW9
                        clear hb
                        refine ⟨_, rfl, hs10, ?_⟩
                        refine hx_append (i := 39) (oi := _) (.tmp 99) (.tmp 101) 27 wB.heap.size 49 i9 (.agg #[.string ByteArray.empty, .string ByteArray.empty, .string ByteArray.empty, .int .i64 0, .bool false, .string ByteArray.empty, .bool false, .string ByteArray.empty, .bool false, .string ByteArray.empty, .bool false, .string ByteArray.empty, .slice none 0 0]) 13 176 (.slice b9 gr1.length d9) gr1.length X9 wB.heap.size x9 gr2.length y9 Y9 rfl rfl (by kernel_rfl) (by kernel_rfl) rfl Tryz.underlying27 I9.out.1 I9.out.2.1 I9.out.2.2.1 I9.out.2.2.2 rfl (by decide) (by kernel_rfl) hW9 (by kernel_rfl) (reads_next HRD9.out hs10) HOY9.out (by have := HLS.out.2.2.2.2; have := HLT.out.2.2.2.2; unfold maxLen; omega) (by have := HLS.out.2.2.2.2; have := HLT.out.2.2.2.2; omega) (hs10).size ?_
                        intro vn9 wx60 hX9 hg9 _
                        have hs11 : Since wB wx60 := since_grow hs10 hW9 (Nat.le_refl _) hg9
                        replace hW3 := own_other hW3 hW9 (by decide) hg9
                        replace hW4 := own_other hW4 hW9 (by decide) hg9
                        replace hW5 := own_other hW5 hW9 (by decide) hg9
                        replace hCel := cel_own hCel hW9 (by decide) hg9
                        replace hW8 := own_other hW8 hW9 (by decide) hg9
                        replace hW9 := hX9
                        clear hX9 hg9
                        obtain ⟨p9, q9, rfl⟩ := own_slice hW9
                        refine ⟨hs11, ?_⟩
                        refine hx_take (i := 40) (oi := _) (v := .agg #[.slice p3 (pr1.length + pr2.length) q3, .slice p4 (pd1.length + pd2.length) q4, .slice p5 (cl1.length + cl2.length) q5, .int .i64 (max qu1 qu2), .int .i64 (max bu1 bu2), .slice p8 (ru1.length + ru2.length) q8, .slice p9 (gr1.length + gr2.length) q9]) rfl rfl hns (by kernel_rfl) (by kernel_rfl) hQ (by kernel_rfl) (fun _ _ => by kernel_rfl) hs11 ?_
                        have hs12 : Since wB (wx60.setRow (wx56.heap.size) #[.slice p3 (pr1.length + pr2.length) q3, .slice p4 (pd1.length + pd2.length) q4, .slice p5 (cl1.length + cl2.length) q5, .int .i64 (max qu1 qu2), .int .i64 (max bu1 bu2), .slice p8 (ru1.length + ru2.length) q8, .slice p9 (gr1.length + gr2.length) q9]) := since_setRowP hs11 hge _
                        have hone : Hid ((#[.slice p3 (pr1.length + pr2.length) q3, .slice p4 (pd1.length + pd2.length) q4, .slice p5 (cl1.length + cl2.length) q5, .int .i64 (max qu1 qu2), .int .i64 (max bu1 bu2), .slice p8 (ru1.length + ru2.length) q8, .slice p9 (gr1.length + gr2.length) q9] : Array Value).all (·.oneCell') = true) := by show _ = _; simp [Value.oneCell']
                        refine hx_store (i := 42) (oi := _) (wx60.setRow (wx56.heap.size) #[.slice p3 (pr1.length + pr2.length) q3, .slice p4 (pd1.length + pd2.length) q4, .slice p5 (cl1.length + cl2.length) q5, .int .i64 (max qu1 qu2), .int .i64 (max bu1 bu2), .slice p8 (ru1.length + ru2.length) q8, .slice p9 (gr1.length + gr2.length) q9]) rfl rfl (by kernel_rfl) (by kernel_rfl) (st_rowP (old := #[.slice none 0 0, .slice none 0 0, .slice none 0 0, .int .i64 0, .int .i64 0, .slice none 0 0, .slice none 0 0]) (cells := #[.slice p3 (pr1.length + pr2.length) q3, .slice p4 (pd1.length + pd2.length) q4, .slice p5 (cl1.length + cl2.length) q5, .int .i64 (max qu1 qu2), .int .i64 (max bu1 bu2), .slice p8 (ru1.length + ru2.length) q8, .slice p9 (gr1.length + gr2.length) q9]) rfl (by kernel_rfl) (by kernel_rfl) (by kernel_rfl) rfl hone.out _ hCel) hs12 ?_
                        replace hW3 := own_setRow (ds := #[.slice p3 (pr1.length + pr2.length) q3, .slice p4 (pd1.length + pd2.length) q4, .slice p5 (cl1.length + cl2.length) q5, .int .i64 (max qu1 qu2), .int .i64 (max bu1 bu2), .slice p8 (ru1.length + ru2.length) q8, .slice p9 (gr1.length + gr2.length) q9]) hW3 hCel (by decide)
                        replace hW4 := own_setRow (ds := #[.slice p3 (pr1.length + pr2.length) q3, .slice p4 (pd1.length + pd2.length) q4, .slice p5 (cl1.length + cl2.length) q5, .int .i64 (max qu1 qu2), .int .i64 (max bu1 bu2), .slice p8 (ru1.length + ru2.length) q8, .slice p9 (gr1.length + gr2.length) q9]) hW4 hCel (by decide)
                        replace hW5 := own_setRow (ds := #[.slice p3 (pr1.length + pr2.length) q3, .slice p4 (pd1.length + pd2.length) q4, .slice p5 (cl1.length + cl2.length) q5, .int .i64 (max qu1 qu2), .int .i64 (max bu1 bu2), .slice p8 (ru1.length + ru2.length) q8, .slice p9 (gr1.length + gr2.length) q9]) hW5 hCel (by decide)
                        replace hW8 := own_setRow (ds := #[.slice p3 (pr1.length + pr2.length) q3, .slice p4 (pd1.length + pd2.length) q4, .slice p5 (cl1.length + cl2.length) q5, .int .i64 (max qu1 qu2), .int .i64 (max bu1 bu2), .slice p8 (ru1.length + ru2.length) q8, .slice p9 (gr1.length + gr2.length) q9]) hW8 hCel (by decide)
                        replace hW9 := own_setRow (ds := #[.slice p3 (pr1.length + pr2.length) q3, .slice p4 (pd1.length + pd2.length) q4, .slice p5 (cl1.length + cl2.length) q5, .int .i64 (max qu1 qu2), .int .i64 (max bu1 bu2), .slice p8 (ru1.length + ru2.length) q8, .slice p9 (gr1.length + gr2.length) q9]) hW9 hCel (by decide)
                        replace hCel := hCel.row #[.slice p3 (pr1.length + pr2.length) q3, .slice p4 (pd1.length + pd2.length) q4, .slice p5 (cl1.length + cl2.length) q5, .int .i64 (max qu1 qu2), .int .i64 (max bu1 bu2), .slice p8 (ru1.length + ru2.length) q8, .slice p9 (gr1.length + gr2.length) q9]
                        refine wpAnyH_done (by kernel_rfl) ?_ _
                        clear hns hQ
                        simp only [List.set_cons_zero, List.set_cons_succ]
                        obtain ⟨C, U, G, hPR⟩ := HBOTH.out _ _ _ _ _ _ _ hs12 hW3 hW4 hW5 hW8 hW9
                        have HC := Lib.hid (HS2.out _ hs12 _ _ _ _ _ _ _ _ hPR)
                        have hB3 := hB3.next hs12
                        have hSW := hs12
                        clear hPR hW3 hW4 hW5 hW8 hW9 hge hone hs0 hs1 hs2 hs3 hs4 hs5 hs6 hs7 hs8 hs9 hs10 hs11 hs12
                        generalize (wx60.setRow (wx56.heap.size) #[.slice p3 (pr1.length + pr2.length) q3, .slice p4 (pd1.length + pd2.length) q4, .slice p5 (cl1.length + cl2.length) q5, .int .i64 (max qu1 qu2), .int .i64 (max bu1 bu2), .slice p8 (ru1.length + ru2.length) q8, .slice p9 (gr1.length + gr2.length) q9]) = wq at *
                        generalize wx56.heap.size = gN at *
                        have k0 : wq.cell? ⟨g3, 0, none⟩ = some (.slice z3 pr3.length k3) := hB3.cell 0
                        have k1 : wq.cell? ⟨g3, 1, none⟩ = some (.slice z4 pd3.length k4) := hB3.cell 1
                        have k2 : wq.cell? ⟨g3, 2, none⟩ = some (.slice z5 cl3.length k5) := hB3.cell 2
                        have k3 : wq.cell? ⟨g3, 3, none⟩ = some (.int .i64 qu3) := hB3.cell 3
                        have k4 : wq.cell? ⟨g3, 4, none⟩ = some (.int .i64 bu3) := hB3.cell 4
                        have k5 : wq.cell? ⟨g3, 5, none⟩ = some (.slice z8 ru3.length k8) := hB3.cell 5
                        have k6 : wq.cell? ⟨g3, 6, none⟩ = some (.slice z9 gr3.length k9) := hB3.cell 6
                        have l0 : wq.cell? ⟨gN, 0, none⟩ = some (.slice p3 (pr1.length + pr2.length) q3) := hCel.cell 0
                        have l1 : wq.cell? ⟨gN, 1, none⟩ = some (.slice p4 (pd1.length + pd2.length) q4) := hCel.cell 1
                        have l2 : wq.cell? ⟨gN, 2, none⟩ = some (.slice p5 (cl1.length + cl2.length) q5) := hCel.cell 2
                        have l3 : wq.cell? ⟨gN, 3, none⟩ = some (.int .i64 (max qu1 qu2)) := hCel.cell 3
                        have l4 : wq.cell? ⟨gN, 4, none⟩ = some (.int .i64 (max bu1 bu2)) := hCel.cell 4
                        have l5 : wq.cell? ⟨gN, 5, none⟩ = some (.slice p8 (ru1.length + ru2.length) q8) := hCel.cell 5
                        have l6 : wq.cell? ⟨gN, 6, none⟩ = some (.slice p9 (gr1.length + gr2.length) q9) := hCel.cell 6
                        clear hB3 hCel
                        go_wp2_with fail
                        refine HC.out.mono ?_
                        rintro e wr ⟨rfl, hb⟩
                        have hSR := hSW.trans hb
                        clear k0 l0 k1 l1 k2 l2 k3 l3 k4 l4 k5 l5 k6 l6
                        go_wp2_with fail
                        go_meet
                        case rel => exact hSR
                    · have hs6 : Since wB (wx55.alloc (.cells #[.slice none 0 0, .slice none 0 0, .slice none 0 0, .int .i64 0, .int .i64 0, .slice none 0 0, .slice none 0 0] 29)) := hs5.alloc _
                      have hge : wB.heap.size ≤ wx55.heap.size := (hs5).size
                      replace hW3 := own_since hW3 (((Since.refl wx55).alloc (.cells #[.slice none 0 0, .slice none 0 0, .slice none 0 0, .int .i64 0, .int .i64 0, .slice none 0 0, .slice none 0 0] 29)))
                      replace hW4 := own_since hW4 (((Since.refl wx55).alloc (.cells #[.slice none 0 0, .slice none 0 0, .slice none 0 0, .int .i64 0, .int .i64 0, .slice none 0 0, .slice none 0 0] 29)))
                      replace hW5 := own_since hW5 (((Since.refl wx55).alloc (.cells #[.slice none 0 0, .slice none 0 0, .slice none 0 0, .int .i64 0, .int .i64 0, .slice none 0 0, .slice none 0 0] 29)))
                      have hCel : Cel (wx55.alloc (.cells #[.slice none 0 0, .slice none 0 0, .slice none 0 0, .int .i64 0, .int .i64 0, .slice none 0 0, .slice none 0 0] 29)) wx55.heap.size #[.slice none 0 0, .slice none 0 0, .slice none 0 0, .int .i64 0, .int .i64 0, .slice none 0 0, .slice none 0 0] 29 := heap_alloc_new _ _
                      refine wp_value (v := .pointer (some ⟨wx55.heap.size, 0, none⟩)) (w' := (wx55.alloc (.cells #[.slice none 0 0, .slice none 0 0, .slice none 0 0, .int .i64 0, .int .i64 0, .slice none 0 0, .slice none 0 0] 29))) rfl (by kernel_rfl) ⟨hs6, ?_⟩
                      refine hx_append (i := 17) (oi := _) (.tmp 77) (.tmp 79) 25 wB.heap.size 38 i5 (.agg #[.string ByteArray.empty, .slice none 0 0]) 2 40 (.slice b5 cl1.length d5) cl1.length X5 wB.heap.size x5 cl2.length y5 Y5 rfl rfl (by kernel_rfl) (by kernel_rfl) rfl Tryz.underlying25 I5.out.1 I5.out.2.1 I5.out.2.2.1 I5.out.2.2.2 rfl (by decide) (by kernel_rfl) hW5 (by kernel_rfl) (reads_next HRD5.out hs6) HOY5.out (by have := HLS.out.2.2.1; have := HLT.out.2.2.1; unfold maxLen; omega) (by have := HLS.out.2.2.1; have := HLT.out.2.2.1; omega) (hs6).size ?_
                      intro vn5 wx56 hX5 hg5 _
                      have hs7 : Since wB wx56 := since_grow hs6 hW5 (Nat.le_refl _) hg5
                      replace hW3 := own_other hW3 hW5 (by decide) hg5
                      replace hW4 := own_other hW4 hW5 (by decide) hg5
                      replace hCel := cel_own hCel hW5 (by decide) hg5
                      replace hW5 := hX5
                      clear hX5 hg5
                      obtain ⟨p5, q5, rfl⟩ := own_slice hW5
                      refine ⟨hs7, ?_⟩
                      refine hx_call (i := 30) (oi := _) 34 #[.slice a8 ru1.length e8] rfl rfl (by kernel_rfl) (by kernel_rfl) (by kernel_rfl) (ownR_rul _ _ _ _ _ (own_since HX8.out hs7) HOX8.out (by have := HLS.out.2.2.2.1; omega)) ?_
                      rintro e wx57 ⟨v8, rfl, hW8, hb⟩
                      have hs8 : Since wB wx57 := hs7.trans hb
                      replace hW3 := own_since hW3 (hb)
                      replace hW4 := own_since hW4 (hb)
                      replace hW5 := own_since hW5 (hb)
                      replace hCel := hCel.next hb
                      replace hW8 := own_base hW8 (hs7).size
                      obtain ⟨b8, d8, rfl⟩ := own_slice hW8
                      clear hb
                      refine ⟨_, rfl, hs8, ?_⟩
                      refine hx_append (i := 33) (oi := _) (.tmp 93) (.tmp 95) 26 wB.heap.size 47 i8 (.agg #[.string ByteArray.empty, .string ByteArray.empty, .int .i64 0, .bool false, .string ByteArray.empty, .bool false, .string ByteArray.empty, .bool false, .string ByteArray.empty, .bool false, .string ByteArray.empty, .slice none 0 0]) 12 160 (.slice b8 ru1.length d8) ru1.length X8 wB.heap.size x8 ru2.length y8 Y8 rfl rfl (by kernel_rfl) (by kernel_rfl) rfl Tryz.underlying26 I8.out.1 I8.out.2.1 I8.out.2.2.1 I8.out.2.2.2 rfl (by decide) (by kernel_rfl) hW8 (by kernel_rfl) (reads_next HRD8.out hs8) HOY8.out (by have := HLS.out.2.2.2.1; have := HLT.out.2.2.2.1; unfold maxLen; omega) (by have := HLS.out.2.2.2.1; have := HLT.out.2.2.2.1; omega) (hs8).size ?_
                      intro vn8 wx58 hX8 hg8 _
                      have hs9 : Since wB wx58 := since_grow hs8 hW8 (Nat.le_refl _) hg8
                      replace hW3 := own_other hW3 hW8 (by decide) hg8
                      replace hW4 := own_other hW4 hW8 (by decide) hg8
                      replace hW5 := own_other hW5 hW8 (by decide) hg8
                      replace hCel := cel_own hCel hW8 (by decide) hg8
                      replace hW8 := hX8
                      clear hX8 hg8
                      obtain ⟨p8, q8, rfl⟩ := own_slice hW8
                      refine ⟨hs9, ?_⟩
                      refine hx_call (i := 36) (oi := _) 35 #[.slice a9 gr1.length e9] rfl rfl (by kernel_rfl) (by kernel_rfl) (by kernel_rfl) (ownR_grn _ _ _ _ _ (own_since HX9.out hs9) HOX9.out (by have := HLS.out.2.2.2.2; omega)) ?_
                      rintro e wx59 ⟨v9, rfl, hW9, hb⟩
                      have hs10 : Since wB wx59 := hs9.trans hb
                      replace hW3 := own_since hW3 (hb)
                      replace hW4 := own_since hW4 (hb)
                      replace hW5 := own_since hW5 (hb)
                      replace hCel := hCel.next hb
                      replace hW8 := own_since hW8 (hb)
                      replace hW9 := own_base hW9 (hs9).size
                      obtain ⟨b9, d9, rfl⟩ := own_slice hW9
                      clear hb
                      refine ⟨_, rfl, hs10, ?_⟩
                      refine hx_append (i := 39) (oi := _) (.tmp 99) (.tmp 101) 27 wB.heap.size 49 i9 (.agg #[.string ByteArray.empty, .string ByteArray.empty, .string ByteArray.empty, .int .i64 0, .bool false, .string ByteArray.empty, .bool false, .string ByteArray.empty, .bool false, .string ByteArray.empty, .bool false, .string ByteArray.empty, .slice none 0 0]) 13 176 (.slice b9 gr1.length d9) gr1.length X9 wB.heap.size x9 gr2.length y9 Y9 rfl rfl (by kernel_rfl) (by kernel_rfl) rfl Tryz.underlying27 I9.out.1 I9.out.2.1 I9.out.2.2.1 I9.out.2.2.2 rfl (by decide) (by kernel_rfl) hW9 (by kernel_rfl) (reads_next HRD9.out hs10) HOY9.out (by have := HLS.out.2.2.2.2; have := HLT.out.2.2.2.2; unfold maxLen; omega) (by have := HLS.out.2.2.2.2; have := HLT.out.2.2.2.2; omega) (hs10).size ?_
                      intro vn9 wx60 hX9 hg9 _
                      have hs11 : Since wB wx60 := since_grow hs10 hW9 (Nat.le_refl _) hg9
                      replace hW3 := own_other hW3 hW9 (by decide) hg9
                      replace hW4 := own_other hW4 hW9 (by decide) hg9
                      replace hW5 := own_other hW5 hW9 (by decide) hg9
                      replace hCel := cel_own hCel hW9 (by decide) hg9
                      replace hW8 := own_other hW8 hW9 (by decide) hg9
                      replace hW9 := hX9
                      clear hX9 hg9
                      obtain ⟨p9, q9, rfl⟩ := own_slice hW9
                      refine ⟨hs11, ?_⟩
                      refine hx_take (i := 40) (oi := _) (v := .agg #[.slice p3 (pr1.length + pr2.length) q3, .slice p4 (pd1.length + pd2.length) q4, .slice p5 (cl1.length + cl2.length) q5, .int .i64 (max qu1 qu2), .int .i64 (max bu1 bu2), .slice p8 (ru1.length + ru2.length) q8, .slice p9 (gr1.length + gr2.length) q9]) rfl rfl hns (by kernel_rfl) (by kernel_rfl) hQ (by kernel_rfl) (fun _ _ => by kernel_rfl) hs11 ?_
                      have hs12 : Since wB (wx60.setRow (wx55.heap.size) #[.slice p3 (pr1.length + pr2.length) q3, .slice p4 (pd1.length + pd2.length) q4, .slice p5 (cl1.length + cl2.length) q5, .int .i64 (max qu1 qu2), .int .i64 (max bu1 bu2), .slice p8 (ru1.length + ru2.length) q8, .slice p9 (gr1.length + gr2.length) q9]) := since_setRowP hs11 hge _
                      have hone : Hid ((#[.slice p3 (pr1.length + pr2.length) q3, .slice p4 (pd1.length + pd2.length) q4, .slice p5 (cl1.length + cl2.length) q5, .int .i64 (max qu1 qu2), .int .i64 (max bu1 bu2), .slice p8 (ru1.length + ru2.length) q8, .slice p9 (gr1.length + gr2.length) q9] : Array Value).all (·.oneCell') = true) := by show _ = _; simp [Value.oneCell']
                      refine hx_store (i := 42) (oi := _) (wx60.setRow (wx55.heap.size) #[.slice p3 (pr1.length + pr2.length) q3, .slice p4 (pd1.length + pd2.length) q4, .slice p5 (cl1.length + cl2.length) q5, .int .i64 (max qu1 qu2), .int .i64 (max bu1 bu2), .slice p8 (ru1.length + ru2.length) q8, .slice p9 (gr1.length + gr2.length) q9]) rfl rfl (by kernel_rfl) (by kernel_rfl) (st_rowP (old := #[.slice none 0 0, .slice none 0 0, .slice none 0 0, .int .i64 0, .int .i64 0, .slice none 0 0, .slice none 0 0]) (cells := #[.slice p3 (pr1.length + pr2.length) q3, .slice p4 (pd1.length + pd2.length) q4, .slice p5 (cl1.length + cl2.length) q5, .int .i64 (max qu1 qu2), .int .i64 (max bu1 bu2), .slice p8 (ru1.length + ru2.length) q8, .slice p9 (gr1.length + gr2.length) q9]) rfl (by kernel_rfl) (by kernel_rfl) (by kernel_rfl) rfl hone.out _ hCel) hs12 ?_
                      replace hW3 := own_setRow (ds := #[.slice p3 (pr1.length + pr2.length) q3, .slice p4 (pd1.length + pd2.length) q4, .slice p5 (cl1.length + cl2.length) q5, .int .i64 (max qu1 qu2), .int .i64 (max bu1 bu2), .slice p8 (ru1.length + ru2.length) q8, .slice p9 (gr1.length + gr2.length) q9]) hW3 hCel (by decide)
                      replace hW4 := own_setRow (ds := #[.slice p3 (pr1.length + pr2.length) q3, .slice p4 (pd1.length + pd2.length) q4, .slice p5 (cl1.length + cl2.length) q5, .int .i64 (max qu1 qu2), .int .i64 (max bu1 bu2), .slice p8 (ru1.length + ru2.length) q8, .slice p9 (gr1.length + gr2.length) q9]) hW4 hCel (by decide)
                      replace hW5 := own_setRow (ds := #[.slice p3 (pr1.length + pr2.length) q3, .slice p4 (pd1.length + pd2.length) q4, .slice p5 (cl1.length + cl2.length) q5, .int .i64 (max qu1 qu2), .int .i64 (max bu1 bu2), .slice p8 (ru1.length + ru2.length) q8, .slice p9 (gr1.length + gr2.length) q9]) hW5 hCel (by decide)
                      replace hW8 := own_setRow (ds := #[.slice p3 (pr1.length + pr2.length) q3, .slice p4 (pd1.length + pd2.length) q4, .slice p5 (cl1.length + cl2.length) q5, .int .i64 (max qu1 qu2), .int .i64 (max bu1 bu2), .slice p8 (ru1.length + ru2.length) q8, .slice p9 (gr1.length + gr2.length) q9]) hW8 hCel (by decide)
                      replace hW9 := own_setRow (ds := #[.slice p3 (pr1.length + pr2.length) q3, .slice p4 (pd1.length + pd2.length) q4, .slice p5 (cl1.length + cl2.length) q5, .int .i64 (max qu1 qu2), .int .i64 (max bu1 bu2), .slice p8 (ru1.length + ru2.length) q8, .slice p9 (gr1.length + gr2.length) q9]) hW9 hCel (by decide)
                      replace hCel := hCel.row #[.slice p3 (pr1.length + pr2.length) q3, .slice p4 (pd1.length + pd2.length) q4, .slice p5 (cl1.length + cl2.length) q5, .int .i64 (max qu1 qu2), .int .i64 (max bu1 bu2), .slice p8 (ru1.length + ru2.length) q8, .slice p9 (gr1.length + gr2.length) q9]
                      refine wpAnyH_done (by kernel_rfl) ?_ _
                      clear hns hQ
                      simp only [List.set_cons_zero, List.set_cons_succ]
                      obtain ⟨C, U, G, hPR⟩ := HBOTH.out _ _ _ _ _ _ _ hs12 hW3 hW4 hW5 hW8 hW9
                      have HC := Lib.hid (HS2.out _ hs12 _ _ _ _ _ _ _ _ hPR)
                      have hB3 := hB3.next hs12
                      have hSW := hs12
                      clear hPR hW3 hW4 hW5 hW8 hW9 hge hone hs0 hs1 hs2 hs3 hs4 hs5 hs6 hs7 hs8 hs9 hs10 hs11 hs12
                      generalize (wx60.setRow (wx55.heap.size) #[.slice p3 (pr1.length + pr2.length) q3, .slice p4 (pd1.length + pd2.length) q4, .slice p5 (cl1.length + cl2.length) q5, .int .i64 (max qu1 qu2), .int .i64 (max bu1 bu2), .slice p8 (ru1.length + ru2.length) q8, .slice p9 (gr1.length + gr2.length) q9]) = wq at *
                      generalize wx55.heap.size = gN at *
                      have k0 : wq.cell? ⟨g3, 0, none⟩ = some (.slice z3 pr3.length k3) := hB3.cell 0
                      have k1 : wq.cell? ⟨g3, 1, none⟩ = some (.slice z4 pd3.length k4) := hB3.cell 1
                      have k2 : wq.cell? ⟨g3, 2, none⟩ = some (.slice z5 cl3.length k5) := hB3.cell 2
                      have k3 : wq.cell? ⟨g3, 3, none⟩ = some (.int .i64 qu3) := hB3.cell 3
                      have k4 : wq.cell? ⟨g3, 4, none⟩ = some (.int .i64 bu3) := hB3.cell 4
                      have k5 : wq.cell? ⟨g3, 5, none⟩ = some (.slice z8 ru3.length k8) := hB3.cell 5
                      have k6 : wq.cell? ⟨g3, 6, none⟩ = some (.slice z9 gr3.length k9) := hB3.cell 6
                      have l0 : wq.cell? ⟨gN, 0, none⟩ = some (.slice p3 (pr1.length + pr2.length) q3) := hCel.cell 0
                      have l1 : wq.cell? ⟨gN, 1, none⟩ = some (.slice p4 (pd1.length + pd2.length) q4) := hCel.cell 1
                      have l2 : wq.cell? ⟨gN, 2, none⟩ = some (.slice p5 (cl1.length + cl2.length) q5) := hCel.cell 2
                      have l3 : wq.cell? ⟨gN, 3, none⟩ = some (.int .i64 (max qu1 qu2)) := hCel.cell 3
                      have l4 : wq.cell? ⟨gN, 4, none⟩ = some (.int .i64 (max bu1 bu2)) := hCel.cell 4
                      have l5 : wq.cell? ⟨gN, 5, none⟩ = some (.slice p8 (ru1.length + ru2.length) q8) := hCel.cell 5
                      have l6 : wq.cell? ⟨gN, 6, none⟩ = some (.slice p9 (gr1.length + gr2.length) q9) := hCel.cell 6
                      clear hB3 hCel
                      go_wp2_with fail
                      refine HC.out.mono ?_
                      rintro e wr ⟨rfl, hb⟩
                      have hSR := hSW.trans hb
                      clear k0 l0 k1 l1 k2 l2 k3 l3 k4 l4 k5 l5 k6 l6
                      go_wp2_with fail
                      go_meet
                      case rel => exact hSR
                  · have hs5 : Since wB (wx54.alloc (.cells #[.slice none 0 0, .slice none 0 0, .slice none 0 0, .int .i64 0, .int .i64 0, .slice none 0 0, .slice none 0 0] 29)) := hs4.alloc _
                    have hge : wB.heap.size ≤ wx54.heap.size := (hs4).size
                    replace hW3 := own_since hW3 (((Since.refl wx54).alloc (.cells #[.slice none 0 0, .slice none 0 0, .slice none 0 0, .int .i64 0, .int .i64 0, .slice none 0 0, .slice none 0 0] 29)))
                    replace hW4 := own_since hW4 (((Since.refl wx54).alloc (.cells #[.slice none 0 0, .slice none 0 0, .slice none 0 0, .int .i64 0, .int .i64 0, .slice none 0 0, .slice none 0 0] 29)))
                    have hCel : Cel (wx54.alloc (.cells #[.slice none 0 0, .slice none 0 0, .slice none 0 0, .int .i64 0, .int .i64 0, .slice none 0 0, .slice none 0 0] 29)) wx54.heap.size #[.slice none 0 0, .slice none 0 0, .slice none 0 0, .int .i64 0, .int .i64 0, .slice none 0 0, .slice none 0 0] 29 := heap_alloc_new _ _
                    refine hx_call (i := 14) (oi := _) 33 #[.slice a5 cl1.length e5] rfl rfl (by kernel_rfl) (by kernel_rfl) (by kernel_rfl) (ownR_clr _ _ _ _ _ (own_since HX5.out hs5) HOX5.out (by have := HLS.out.2.2.1; omega)) ?_
                    rintro e wx55 ⟨v5, rfl, hW5, hb⟩
                    have hs6 : Since wB wx55 := hs5.trans hb
                    replace hW3 := own_since hW3 (hb)
                    replace hW4 := own_since hW4 (hb)
                    replace hCel := hCel.next hb
                    replace hW5 := own_base hW5 (hs5).size
                    obtain ⟨b5, d5, rfl⟩ := own_slice hW5
                    clear hb
                    refine ⟨_, rfl, hs6, ?_⟩
                    refine hx_append (i := 17) (oi := _) (.tmp 77) (.tmp 79) 25 wB.heap.size 38 i5 (.agg #[.string ByteArray.empty, .slice none 0 0]) 2 40 (.slice b5 cl1.length d5) cl1.length X5 wB.heap.size x5 cl2.length y5 Y5 rfl rfl (by kernel_rfl) (by kernel_rfl) rfl Tryz.underlying25 I5.out.1 I5.out.2.1 I5.out.2.2.1 I5.out.2.2.2 rfl (by decide) (by kernel_rfl) hW5 (by kernel_rfl) (reads_next HRD5.out hs6) HOY5.out (by have := HLS.out.2.2.1; have := HLT.out.2.2.1; unfold maxLen; omega) (by have := HLS.out.2.2.1; have := HLT.out.2.2.1; omega) (hs6).size ?_
                    intro vn5 wx56 hX5 hg5 _
                    have hs7 : Since wB wx56 := since_grow hs6 hW5 (Nat.le_refl _) hg5
                    replace hW3 := own_other hW3 hW5 (by decide) hg5
                    replace hW4 := own_other hW4 hW5 (by decide) hg5
                    replace hCel := cel_own hCel hW5 (by decide) hg5
                    replace hW5 := hX5
                    clear hX5 hg5
                    obtain ⟨p5, q5, rfl⟩ := own_slice hW5
                    refine ⟨hs7, ?_⟩
                    refine hx_call (i := 30) (oi := _) 34 #[.slice a8 ru1.length e8] rfl rfl (by kernel_rfl) (by kernel_rfl) (by kernel_rfl) (ownR_rul _ _ _ _ _ (own_since HX8.out hs7) HOX8.out (by have := HLS.out.2.2.2.1; omega)) ?_
                    rintro e wx57 ⟨v8, rfl, hW8, hb⟩
                    have hs8 : Since wB wx57 := hs7.trans hb
                    replace hW3 := own_since hW3 (hb)
                    replace hW4 := own_since hW4 (hb)
                    replace hCel := hCel.next hb
                    replace hW5 := own_since hW5 (hb)
                    replace hW8 := own_base hW8 (hs7).size
                    obtain ⟨b8, d8, rfl⟩ := own_slice hW8
                    clear hb
                    refine ⟨_, rfl, hs8, ?_⟩
                    refine hx_append (i := 33) (oi := _) (.tmp 93) (.tmp 95) 26 wB.heap.size 47 i8 (.agg #[.string ByteArray.empty, .string ByteArray.empty, .int .i64 0, .bool false, .string ByteArray.empty, .bool false, .string ByteArray.empty, .bool false, .string ByteArray.empty, .bool false, .string ByteArray.empty, .slice none 0 0]) 12 160 (.slice b8 ru1.length d8) ru1.length X8 wB.heap.size x8 ru2.length y8 Y8 rfl rfl (by kernel_rfl) (by kernel_rfl) rfl Tryz.underlying26 I8.out.1 I8.out.2.1 I8.out.2.2.1 I8.out.2.2.2 rfl (by decide) (by kernel_rfl) hW8 (by kernel_rfl) (reads_next HRD8.out hs8) HOY8.out (by have := HLS.out.2.2.2.1; have := HLT.out.2.2.2.1; unfold maxLen; omega) (by have := HLS.out.2.2.2.1; have := HLT.out.2.2.2.1; omega) (hs8).size ?_
                    intro vn8 wx58 hX8 hg8 _
                    have hs9 : Since wB wx58 := since_grow hs8 hW8 (Nat.le_refl _) hg8
                    replace hW3 := own_other hW3 hW8 (by decide) hg8
                    replace hW4 := own_other hW4 hW8 (by decide) hg8
                    replace hCel := cel_own hCel hW8 (by decide) hg8
                    replace hW5 := own_other hW5 hW8 (by decide) hg8
                    replace hW8 := hX8
                    clear hX8 hg8
                    obtain ⟨p8, q8, rfl⟩ := own_slice hW8
                    refine ⟨hs9, ?_⟩
                    refine hx_call (i := 36) (oi := _) 35 #[.slice a9 gr1.length e9] rfl rfl (by kernel_rfl) (by kernel_rfl) (by kernel_rfl) (ownR_grn _ _ _ _ _ (own_since HX9.out hs9) HOX9.out (by have := HLS.out.2.2.2.2; omega)) ?_
                    rintro e wx59 ⟨v9, rfl, hW9, hb⟩
                    have hs10 : Since wB wx59 := hs9.trans hb
                    replace hW3 := own_since hW3 (hb)
                    replace hW4 := own_since hW4 (hb)
                    replace hCel := hCel.next hb
                    replace hW5 := own_since hW5 (hb)
                    replace hW8 := own_since hW8 (hb)
                    replace hW9 := own_base hW9 (hs9).size
                    obtain ⟨b9, d9, rfl⟩ := own_slice hW9
                    clear hb
                    refine ⟨_, rfl, hs10, ?_⟩
                    refine hx_append (i := 39) (oi := _) (.tmp 99) (.tmp 101) 27 wB.heap.size 49 i9 (.agg #[.string ByteArray.empty, .string ByteArray.empty, .string ByteArray.empty, .int .i64 0, .bool false, .string ByteArray.empty, .bool false, .string ByteArray.empty, .bool false, .string ByteArray.empty, .bool false, .string ByteArray.empty, .slice none 0 0]) 13 176 (.slice b9 gr1.length d9) gr1.length X9 wB.heap.size x9 gr2.length y9 Y9 rfl rfl (by kernel_rfl) (by kernel_rfl) rfl Tryz.underlying27 I9.out.1 I9.out.2.1 I9.out.2.2.1 I9.out.2.2.2 rfl (by decide) (by kernel_rfl) hW9 (by kernel_rfl) (reads_next HRD9.out hs10) HOY9.out (by have := HLS.out.2.2.2.2; have := HLT.out.2.2.2.2; unfold maxLen; omega) (by have := HLS.out.2.2.2.2; have := HLT.out.2.2.2.2; omega) (hs10).size ?_
                    intro vn9 wx60 hX9 hg9 _
                    have hs11 : Since wB wx60 := since_grow hs10 hW9 (Nat.le_refl _) hg9
                    replace hW3 := own_other hW3 hW9 (by decide) hg9
                    replace hW4 := own_other hW4 hW9 (by decide) hg9
                    replace hCel := cel_own hCel hW9 (by decide) hg9
                    replace hW5 := own_other hW5 hW9 (by decide) hg9
                    replace hW8 := own_other hW8 hW9 (by decide) hg9
                    replace hW9 := hX9
                    clear hX9 hg9
                    obtain ⟨p9, q9, rfl⟩ := own_slice hW9
                    refine ⟨hs11, ?_⟩
                    refine hx_take (i := 40) (oi := _) (v := .agg #[.slice p3 (pr1.length + pr2.length) q3, .slice p4 (pd1.length + pd2.length) q4, .slice p5 (cl1.length + cl2.length) q5, .int .i64 (max qu1 qu2), .int .i64 (max bu1 bu2), .slice p8 (ru1.length + ru2.length) q8, .slice p9 (gr1.length + gr2.length) q9]) rfl rfl hns (by kernel_rfl) (by kernel_rfl) hQ (by kernel_rfl) (fun _ _ => by kernel_rfl) hs11 ?_
                    have hs12 : Since wB (wx60.setRow (wx54.heap.size) #[.slice p3 (pr1.length + pr2.length) q3, .slice p4 (pd1.length + pd2.length) q4, .slice p5 (cl1.length + cl2.length) q5, .int .i64 (max qu1 qu2), .int .i64 (max bu1 bu2), .slice p8 (ru1.length + ru2.length) q8, .slice p9 (gr1.length + gr2.length) q9]) := since_setRowP hs11 hge _
                    have hone : Hid ((#[.slice p3 (pr1.length + pr2.length) q3, .slice p4 (pd1.length + pd2.length) q4, .slice p5 (cl1.length + cl2.length) q5, .int .i64 (max qu1 qu2), .int .i64 (max bu1 bu2), .slice p8 (ru1.length + ru2.length) q8, .slice p9 (gr1.length + gr2.length) q9] : Array Value).all (·.oneCell') = true) := by show _ = _; simp [Value.oneCell']
                    refine hx_store (i := 42) (oi := _) (wx60.setRow (wx54.heap.size) #[.slice p3 (pr1.length + pr2.length) q3, .slice p4 (pd1.length + pd2.length) q4, .slice p5 (cl1.length + cl2.length) q5, .int .i64 (max qu1 qu2), .int .i64 (max bu1 bu2), .slice p8 (ru1.length + ru2.length) q8, .slice p9 (gr1.length + gr2.length) q9]) rfl rfl (by kernel_rfl) (by kernel_rfl) (st_rowP (old := #[.slice none 0 0, .slice none 0 0, .slice none 0 0, .int .i64 0, .int .i64 0, .slice none 0 0, .slice none 0 0]) (cells := #[.slice p3 (pr1.length + pr2.length) q3, .slice p4 (pd1.length + pd2.length) q4, .slice p5 (cl1.length + cl2.length) q5, .int .i64 (max qu1 qu2), .int .i64 (max bu1 bu2), .slice p8 (ru1.length + ru2.length) q8, .slice p9 (gr1.length + gr2.length) q9]) rfl (by kernel_rfl) (by kernel_rfl) (by kernel_rfl) rfl hone.out _ hCel) hs12 ?_
                    replace hW3 := own_setRow (ds := #[.slice p3 (pr1.length + pr2.length) q3, .slice p4 (pd1.length + pd2.length) q4, .slice p5 (cl1.length + cl2.length) q5, .int .i64 (max qu1 qu2), .int .i64 (max bu1 bu2), .slice p8 (ru1.length + ru2.length) q8, .slice p9 (gr1.length + gr2.length) q9]) hW3 hCel (by decide)
                    replace hW4 := own_setRow (ds := #[.slice p3 (pr1.length + pr2.length) q3, .slice p4 (pd1.length + pd2.length) q4, .slice p5 (cl1.length + cl2.length) q5, .int .i64 (max qu1 qu2), .int .i64 (max bu1 bu2), .slice p8 (ru1.length + ru2.length) q8, .slice p9 (gr1.length + gr2.length) q9]) hW4 hCel (by decide)
                    replace hW5 := own_setRow (ds := #[.slice p3 (pr1.length + pr2.length) q3, .slice p4 (pd1.length + pd2.length) q4, .slice p5 (cl1.length + cl2.length) q5, .int .i64 (max qu1 qu2), .int .i64 (max bu1 bu2), .slice p8 (ru1.length + ru2.length) q8, .slice p9 (gr1.length + gr2.length) q9]) hW5 hCel (by decide)
                    replace hW8 := own_setRow (ds := #[.slice p3 (pr1.length + pr2.length) q3, .slice p4 (pd1.length + pd2.length) q4, .slice p5 (cl1.length + cl2.length) q5, .int .i64 (max qu1 qu2), .int .i64 (max bu1 bu2), .slice p8 (ru1.length + ru2.length) q8, .slice p9 (gr1.length + gr2.length) q9]) hW8 hCel (by decide)
                    replace hW9 := own_setRow (ds := #[.slice p3 (pr1.length + pr2.length) q3, .slice p4 (pd1.length + pd2.length) q4, .slice p5 (cl1.length + cl2.length) q5, .int .i64 (max qu1 qu2), .int .i64 (max bu1 bu2), .slice p8 (ru1.length + ru2.length) q8, .slice p9 (gr1.length + gr2.length) q9]) hW9 hCel (by decide)
                    replace hCel := hCel.row #[.slice p3 (pr1.length + pr2.length) q3, .slice p4 (pd1.length + pd2.length) q4, .slice p5 (cl1.length + cl2.length) q5, .int .i64 (max qu1 qu2), .int .i64 (max bu1 bu2), .slice p8 (ru1.length + ru2.length) q8, .slice p9 (gr1.length + gr2.length) q9]
                    refine wpAnyH_done (by kernel_rfl) ?_ _
                    clear hns hQ
                    simp only [List.set_cons_zero, List.set_cons_succ]
                    obtain ⟨C, U, G, hPR⟩ := HBOTH.out _ _ _ _ _ _ _ hs12 hW3 hW4 hW5 hW8 hW9
                    have HC := Lib.hid (HS2.out _ hs12 _ _ _ _ _ _ _ _ hPR)
                    have hB3 := hB3.next hs12
                    have hSW := hs12
                    clear hPR hW3 hW4 hW5 hW8 hW9 hge hone hs0 hs1 hs2 hs3 hs4 hs5 hs6 hs7 hs8 hs9 hs10 hs11 hs12
                    generalize (wx60.setRow (wx54.heap.size) #[.slice p3 (pr1.length + pr2.length) q3, .slice p4 (pd1.length + pd2.length) q4, .slice p5 (cl1.length + cl2.length) q5, .int .i64 (max qu1 qu2), .int .i64 (max bu1 bu2), .slice p8 (ru1.length + ru2.length) q8, .slice p9 (gr1.length + gr2.length) q9]) = wq at *
                    generalize wx54.heap.size = gN at *
                    have k0 : wq.cell? ⟨g3, 0, none⟩ = some (.slice z3 pr3.length k3) := hB3.cell 0
                    have k1 : wq.cell? ⟨g3, 1, none⟩ = some (.slice z4 pd3.length k4) := hB3.cell 1
                    have k2 : wq.cell? ⟨g3, 2, none⟩ = some (.slice z5 cl3.length k5) := hB3.cell 2
                    have k3 : wq.cell? ⟨g3, 3, none⟩ = some (.int .i64 qu3) := hB3.cell 3
                    have k4 : wq.cell? ⟨g3, 4, none⟩ = some (.int .i64 bu3) := hB3.cell 4
                    have k5 : wq.cell? ⟨g3, 5, none⟩ = some (.slice z8 ru3.length k8) := hB3.cell 5
                    have k6 : wq.cell? ⟨g3, 6, none⟩ = some (.slice z9 gr3.length k9) := hB3.cell 6
                    have l0 : wq.cell? ⟨gN, 0, none⟩ = some (.slice p3 (pr1.length + pr2.length) q3) := hCel.cell 0
                    have l1 : wq.cell? ⟨gN, 1, none⟩ = some (.slice p4 (pd1.length + pd2.length) q4) := hCel.cell 1
                    have l2 : wq.cell? ⟨gN, 2, none⟩ = some (.slice p5 (cl1.length + cl2.length) q5) := hCel.cell 2
                    have l3 : wq.cell? ⟨gN, 3, none⟩ = some (.int .i64 (max qu1 qu2)) := hCel.cell 3
                    have l4 : wq.cell? ⟨gN, 4, none⟩ = some (.int .i64 (max bu1 bu2)) := hCel.cell 4
                    have l5 : wq.cell? ⟨gN, 5, none⟩ = some (.slice p8 (ru1.length + ru2.length) q8) := hCel.cell 5
                    have l6 : wq.cell? ⟨gN, 6, none⟩ = some (.slice p9 (gr1.length + gr2.length) q9) := hCel.cell 6
                    clear hB3 hCel
                    go_wp2_with fail
                    refine HC.out.mono ?_
                    rintro e wr ⟨rfl, hb⟩
                    have hSR := hSW.trans hb
                    clear k0 l0 k1 l1 k2 l2 k3 l3 k4 l4 k5 l5 k6 l6
                    go_wp2_with fail
                    go_meet
                    case rel => exact hSR
                · have hs4 : Since wB (wx53.alloc (.cells #[.slice none 0 0, .slice none 0 0, .slice none 0 0, .int .i64 0, .int .i64 0, .slice none 0 0, .slice none 0 0] 29)) := hs3.alloc _
                  have hge : wB.heap.size ≤ wx53.heap.size := (hs3).size
                  replace hW3 := own_since hW3 (((Since.refl wx53).alloc (.cells #[.slice none 0 0, .slice none 0 0, .slice none 0 0, .int .i64 0, .int .i64 0, .slice none 0 0, .slice none 0 0] 29)))
                  replace hW4 := own_since hW4 (((Since.refl wx53).alloc (.cells #[.slice none 0 0, .slice none 0 0, .slice none 0 0, .int .i64 0, .int .i64 0, .slice none 0 0, .slice none 0 0] 29)))
                  have hCel : Cel (wx53.alloc (.cells #[.slice none 0 0, .slice none 0 0, .slice none 0 0, .int .i64 0, .int .i64 0, .slice none 0 0, .slice none 0 0] 29)) wx53.heap.size #[.slice none 0 0, .slice none 0 0, .slice none 0 0, .int .i64 0, .int .i64 0, .slice none 0 0, .slice none 0 0] 29 := heap_alloc_new _ _
                  refine wp_value (v := .pointer (some ⟨wx53.heap.size, 0, none⟩)) (w' := (wx53.alloc (.cells #[.slice none 0 0, .slice none 0 0, .slice none 0 0, .int .i64 0, .int .i64 0, .slice none 0 0, .slice none 0 0] 29))) rfl (by kernel_rfl) ⟨hs4, ?_⟩
                  refine hx_append (i := 11) (oi := _) (.tmp 71) (.tmp 73) 24 wB.heap.size 36 i4 (.agg #[.string ByteArray.empty, .int .i64 0]) 2 24 (.slice b4 pd1.length d4) pd1.length X4 wB.heap.size x4 pd2.length y4 Y4 rfl rfl (by kernel_rfl) (by kernel_rfl) rfl Tryz.underlying24 I4.out.1 I4.out.2.1 I4.out.2.2.1 I4.out.2.2.2 rfl (by decide) (by kernel_rfl) hW4 (by kernel_rfl) (reads_next HRD4.out hs4) HOY4.out (by have := HLS.out.2.1; have := HLT.out.2.1; unfold maxLen; omega) (by have := HLS.out.2.1; have := HLT.out.2.1; omega) (hs4).size ?_
                  intro vn4 wx54 hX4 hg4 _
                  have hs5 : Since wB wx54 := since_grow hs4 hW4 (Nat.le_refl _) hg4
                  replace hW3 := own_other hW3 hW4 (by decide) hg4
                  replace hCel := cel_own hCel hW4 (by decide) hg4
                  replace hW4 := hX4
                  clear hX4 hg4
                  obtain ⟨p4, q4, rfl⟩ := own_slice hW4
                  refine ⟨hs5, ?_⟩
                  refine hx_call (i := 14) (oi := _) 33 #[.slice a5 cl1.length e5] rfl rfl (by kernel_rfl) (by kernel_rfl) (by kernel_rfl) (ownR_clr _ _ _ _ _ (own_since HX5.out hs5) HOX5.out (by have := HLS.out.2.2.1; omega)) ?_
                  rintro e wx55 ⟨v5, rfl, hW5, hb⟩
                  have hs6 : Since wB wx55 := hs5.trans hb
                  replace hW3 := own_since hW3 (hb)
                  replace hW4 := own_since hW4 (hb)
                  replace hCel := hCel.next hb
                  replace hW5 := own_base hW5 (hs5).size
                  obtain ⟨b5, d5, rfl⟩ := own_slice hW5
                  clear hb
                  refine ⟨_, rfl, hs6, ?_⟩
                  refine hx_append (i := 17) (oi := _) (.tmp 77) (.tmp 79) 25 wB.heap.size 38 i5 (.agg #[.string ByteArray.empty, .slice none 0 0]) 2 40 (.slice b5 cl1.length d5) cl1.length X5 wB.heap.size x5 cl2.length y5 Y5 rfl rfl (by kernel_rfl) (by kernel_rfl) rfl Tryz.underlying25 I5.out.1 I5.out.2.1 I5.out.2.2.1 I5.out.2.2.2 rfl (by decide) (by kernel_rfl) hW5 (by kernel_rfl) (reads_next HRD5.out hs6) HOY5.out (by have := HLS.out.2.2.1; have := HLT.out.2.2.1; unfold maxLen; omega) (by have := HLS.out.2.2.1; have := HLT.out.2.2.1; omega) (hs6).size ?_
                  intro vn5 wx56 hX5 hg5 _
                  have hs7 : Since wB wx56 := since_grow hs6 hW5 (Nat.le_refl _) hg5
                  replace hW3 := own_other hW3 hW5 (by decide) hg5
                  replace hW4 := own_other hW4 hW5 (by decide) hg5
                  replace hCel := cel_own hCel hW5 (by decide) hg5
                  replace hW5 := hX5
                  clear hX5 hg5
                  obtain ⟨p5, q5, rfl⟩ := own_slice hW5
                  refine ⟨hs7, ?_⟩
                  refine hx_call (i := 30) (oi := _) 34 #[.slice a8 ru1.length e8] rfl rfl (by kernel_rfl) (by kernel_rfl) (by kernel_rfl) (ownR_rul _ _ _ _ _ (own_since HX8.out hs7) HOX8.out (by have := HLS.out.2.2.2.1; omega)) ?_
                  rintro e wx57 ⟨v8, rfl, hW8, hb⟩
                  have hs8 : Since wB wx57 := hs7.trans hb
                  replace hW3 := own_since hW3 (hb)
                  replace hW4 := own_since hW4 (hb)
                  replace hCel := hCel.next hb
                  replace hW5 := own_since hW5 (hb)
                  replace hW8 := own_base hW8 (hs7).size
                  obtain ⟨b8, d8, rfl⟩ := own_slice hW8
                  clear hb
                  refine ⟨_, rfl, hs8, ?_⟩
                  refine hx_append (i := 33) (oi := _) (.tmp 93) (.tmp 95) 26 wB.heap.size 47 i8 (.agg #[.string ByteArray.empty, .string ByteArray.empty, .int .i64 0, .bool false, .string ByteArray.empty, .bool false, .string ByteArray.empty, .bool false, .string ByteArray.empty, .bool false, .string ByteArray.empty, .slice none 0 0]) 12 160 (.slice b8 ru1.length d8) ru1.length X8 wB.heap.size x8 ru2.length y8 Y8 rfl rfl (by kernel_rfl) (by kernel_rfl) rfl Tryz.underlying26 I8.out.1 I8.out.2.1 I8.out.2.2.1 I8.out.2.2.2 rfl (by decide) (by kernel_rfl) hW8 (by kernel_rfl) (reads_next HRD8.out hs8) HOY8.out (by have := HLS.out.2.2.2.1; have := HLT.out.2.2.2.1; unfold maxLen; omega) (by have := HLS.out.2.2.2.1; have := HLT.out.2.2.2.1; omega) (hs8).size ?_
                  intro vn8 wx58 hX8 hg8 _
                  have hs9 : Since wB wx58 := since_grow hs8 hW8 (Nat.le_refl _) hg8
                  replace hW3 := own_other hW3 hW8 (by decide) hg8
                  replace hW4 := own_other hW4 hW8 (by decide) hg8
                  replace hCel := cel_own hCel hW8 (by decide) hg8
                  replace hW5 := own_other hW5 hW8 (by decide) hg8
                  replace hW8 := hX8
                  clear hX8 hg8
                  obtain ⟨p8, q8, rfl⟩ := own_slice hW8
                  refine ⟨hs9, ?_⟩
                  refine hx_call (i := 36) (oi := _) 35 #[.slice a9 gr1.length e9] rfl rfl (by kernel_rfl) (by kernel_rfl) (by kernel_rfl) (ownR_grn _ _ _ _ _ (own_since HX9.out hs9) HOX9.out (by have := HLS.out.2.2.2.2; omega)) ?_
                  rintro e wx59 ⟨v9, rfl, hW9, hb⟩
                  have hs10 : Since wB wx59 := hs9.trans hb
                  replace hW3 := own_since hW3 (hb)
                  replace hW4 := own_since hW4 (hb)
                  replace hCel := hCel.next hb
                  replace hW5 := own_since hW5 (hb)
                  replace hW8 := own_since hW8 (hb)
                  replace hW9 := own_base hW9 (hs9).size
                  obtain ⟨b9, d9, rfl⟩ := own_slice hW9
                  clear hb
                  refine ⟨_, rfl, hs10, ?_⟩
                  refine hx_append (i := 39) (oi := _) (.tmp 99) (.tmp 101) 27 wB.heap.size 49 i9 (.agg #[.string ByteArray.empty, .string ByteArray.empty, .string ByteArray.empty, .int .i64 0, .bool false, .string ByteArray.empty, .bool false, .string ByteArray.empty, .bool false, .string ByteArray.empty, .bool false, .string ByteArray.empty, .slice none 0 0]) 13 176 (.slice b9 gr1.length d9) gr1.length X9 wB.heap.size x9 gr2.length y9 Y9 rfl rfl (by kernel_rfl) (by kernel_rfl) rfl Tryz.underlying27 I9.out.1 I9.out.2.1 I9.out.2.2.1 I9.out.2.2.2 rfl (by decide) (by kernel_rfl) hW9 (by kernel_rfl) (reads_next HRD9.out hs10) HOY9.out (by have := HLS.out.2.2.2.2; have := HLT.out.2.2.2.2; unfold maxLen; omega) (by have := HLS.out.2.2.2.2; have := HLT.out.2.2.2.2; omega) (hs10).size ?_
                  intro vn9 wx60 hX9 hg9 _
                  have hs11 : Since wB wx60 := since_grow hs10 hW9 (Nat.le_refl _) hg9
                  replace hW3 := own_other hW3 hW9 (by decide) hg9
                  replace hW4 := own_other hW4 hW9 (by decide) hg9
                  replace hCel := cel_own hCel hW9 (by decide) hg9
                  replace hW5 := own_other hW5 hW9 (by decide) hg9
                  replace hW8 := own_other hW8 hW9 (by decide) hg9
                  replace hW9 := hX9
                  clear hX9 hg9
                  obtain ⟨p9, q9, rfl⟩ := own_slice hW9
                  refine ⟨hs11, ?_⟩
                  refine hx_take (i := 40) (oi := _) (v := .agg #[.slice p3 (pr1.length + pr2.length) q3, .slice p4 (pd1.length + pd2.length) q4, .slice p5 (cl1.length + cl2.length) q5, .int .i64 (max qu1 qu2), .int .i64 (max bu1 bu2), .slice p8 (ru1.length + ru2.length) q8, .slice p9 (gr1.length + gr2.length) q9]) rfl rfl hns (by kernel_rfl) (by kernel_rfl) hQ (by kernel_rfl) (fun _ _ => by kernel_rfl) hs11 ?_
                  have hs12 : Since wB (wx60.setRow (wx53.heap.size) #[.slice p3 (pr1.length + pr2.length) q3, .slice p4 (pd1.length + pd2.length) q4, .slice p5 (cl1.length + cl2.length) q5, .int .i64 (max qu1 qu2), .int .i64 (max bu1 bu2), .slice p8 (ru1.length + ru2.length) q8, .slice p9 (gr1.length + gr2.length) q9]) := since_setRowP hs11 hge _
                  have hone : Hid ((#[.slice p3 (pr1.length + pr2.length) q3, .slice p4 (pd1.length + pd2.length) q4, .slice p5 (cl1.length + cl2.length) q5, .int .i64 (max qu1 qu2), .int .i64 (max bu1 bu2), .slice p8 (ru1.length + ru2.length) q8, .slice p9 (gr1.length + gr2.length) q9] : Array Value).all (·.oneCell') = true) := by show _ = _; simp [Value.oneCell']
                  refine hx_store (i := 42) (oi := _) (wx60.setRow (wx53.heap.size) #[.slice p3 (pr1.length + pr2.length) q3, .slice p4 (pd1.length + pd2.length) q4, .slice p5 (cl1.length + cl2.length) q5, .int .i64 (max qu1 qu2), .int .i64 (max bu1 bu2), .slice p8 (ru1.length + ru2.length) q8, .slice p9 (gr1.length + gr2.length) q9]) rfl rfl (by kernel_rfl) (by kernel_rfl) (st_rowP (old := #[.slice none 0 0, .slice none 0 0, .slice none 0 0, .int .i64 0, .int .i64 0, .slice none 0 0, .slice none 0 0]) (cells := #[.slice p3 (pr1.length + pr2.length) q3, .slice p4 (pd1.length + pd2.length) q4, .slice p5 (cl1.length + cl2.length) q5, .int .i64 (max qu1 qu2), .int .i64 (max bu1 bu2), .slice p8 (ru1.length + ru2.length) q8, .slice p9 (gr1.length + gr2.length) q9]) rfl (by kernel_rfl) (by kernel_rfl) (by kernel_rfl) rfl hone.out _ hCel) hs12 ?_
                  replace hW3 := own_setRow (ds := #[.slice p3 (pr1.length + pr2.length) q3, .slice p4 (pd1.length + pd2.length) q4, .slice p5 (cl1.length + cl2.length) q5, .int .i64 (max qu1 qu2), .int .i64 (max bu1 bu2), .slice p8 (ru1.length + ru2.length) q8, .slice p9 (gr1.length + gr2.length) q9]) hW3 hCel (by decide)
                  replace hW4 := own_setRow (ds := #[.slice p3 (pr1.length + pr2.length) q3, .slice p4 (pd1.length + pd2.length) q4, .slice p5 (cl1.length + cl2.length) q5, .int .i64 (max qu1 qu2), .int .i64 (max bu1 bu2), .slice p8 (ru1.length + ru2.length) q8, .slice p9 (gr1.length + gr2.length) q9]) hW4 hCel (by decide)
                  replace hW5 := own_setRow (ds := #[.slice p3 (pr1.length + pr2.length) q3, .slice p4 (pd1.length + pd2.length) q4, .slice p5 (cl1.length + cl2.length) q5, .int .i64 (max qu1 qu2), .int .i64 (max bu1 bu2), .slice p8 (ru1.length + ru2.length) q8, .slice p9 (gr1.length + gr2.length) q9]) hW5 hCel (by decide)
                  replace hW8 := own_setRow (ds := #[.slice p3 (pr1.length + pr2.length) q3, .slice p4 (pd1.length + pd2.length) q4, .slice p5 (cl1.length + cl2.length) q5, .int .i64 (max qu1 qu2), .int .i64 (max bu1 bu2), .slice p8 (ru1.length + ru2.length) q8, .slice p9 (gr1.length + gr2.length) q9]) hW8 hCel (by decide)
                  replace hW9 := own_setRow (ds := #[.slice p3 (pr1.length + pr2.length) q3, .slice p4 (pd1.length + pd2.length) q4, .slice p5 (cl1.length + cl2.length) q5, .int .i64 (max qu1 qu2), .int .i64 (max bu1 bu2), .slice p8 (ru1.length + ru2.length) q8, .slice p9 (gr1.length + gr2.length) q9]) hW9 hCel (by decide)
                  replace hCel := hCel.row #[.slice p3 (pr1.length + pr2.length) q3, .slice p4 (pd1.length + pd2.length) q4, .slice p5 (cl1.length + cl2.length) q5, .int .i64 (max qu1 qu2), .int .i64 (max bu1 bu2), .slice p8 (ru1.length + ru2.length) q8, .slice p9 (gr1.length + gr2.length) q9]
                  refine wpAnyH_done (by kernel_rfl) ?_ _
                  clear hns hQ
                  simp only [List.set_cons_zero, List.set_cons_succ]
                  obtain ⟨C, U, G, hPR⟩ := HBOTH.out _ _ _ _ _ _ _ hs12 hW3 hW4 hW5 hW8 hW9
                  have HC := Lib.hid (HS2.out _ hs12 _ _ _ _ _ _ _ _ hPR)
                  have hB3 := hB3.next hs12
                  have hSW := hs12
                  clear hPR hW3 hW4 hW5 hW8 hW9 hge hone hs0 hs1 hs2 hs3 hs4 hs5 hs6 hs7 hs8 hs9 hs10 hs11 hs12
                  generalize (wx60.setRow (wx53.heap.size) #[.slice p3 (pr1.length + pr2.length) q3, .slice p4 (pd1.length + pd2.length) q4, .slice p5 (cl1.length + cl2.length) q5, .int .i64 (max qu1 qu2), .int .i64 (max bu1 bu2), .slice p8 (ru1.length + ru2.length) q8, .slice p9 (gr1.length + gr2.length) q9]) = wq at *
                  generalize wx53.heap.size = gN at *
                  have k0 : wq.cell? ⟨g3, 0, none⟩ = some (.slice z3 pr3.length k3) := hB3.cell 0
                  have k1 : wq.cell? ⟨g3, 1, none⟩ = some (.slice z4 pd3.length k4) := hB3.cell 1
                  have k2 : wq.cell? ⟨g3, 2, none⟩ = some (.slice z5 cl3.length k5) := hB3.cell 2
                  have k3 : wq.cell? ⟨g3, 3, none⟩ = some (.int .i64 qu3) := hB3.cell 3
                  have k4 : wq.cell? ⟨g3, 4, none⟩ = some (.int .i64 bu3) := hB3.cell 4
                  have k5 : wq.cell? ⟨g3, 5, none⟩ = some (.slice z8 ru3.length k8) := hB3.cell 5
                  have k6 : wq.cell? ⟨g3, 6, none⟩ = some (.slice z9 gr3.length k9) := hB3.cell 6
                  have l0 : wq.cell? ⟨gN, 0, none⟩ = some (.slice p3 (pr1.length + pr2.length) q3) := hCel.cell 0
                  have l1 : wq.cell? ⟨gN, 1, none⟩ = some (.slice p4 (pd1.length + pd2.length) q4) := hCel.cell 1
                  have l2 : wq.cell? ⟨gN, 2, none⟩ = some (.slice p5 (cl1.length + cl2.length) q5) := hCel.cell 2
                  have l3 : wq.cell? ⟨gN, 3, none⟩ = some (.int .i64 (max qu1 qu2)) := hCel.cell 3
                  have l4 : wq.cell? ⟨gN, 4, none⟩ = some (.int .i64 (max bu1 bu2)) := hCel.cell 4
                  have l5 : wq.cell? ⟨gN, 5, none⟩ = some (.slice p8 (ru1.length + ru2.length) q8) := hCel.cell 5
                  have l6 : wq.cell? ⟨gN, 6, none⟩ = some (.slice p9 (gr1.length + gr2.length) q9) := hCel.cell 6
                  clear hB3 hCel
                  go_wp2_with fail
                  refine HC.out.mono ?_
                  rintro e wr ⟨rfl, hb⟩
                  have hSR := hSW.trans hb
                  clear k0 l0 k1 l1 k2 l2 k3 l3 k4 l4 k5 l5 k6 l6
                  go_wp2_with fail
                  go_meet
                  case rel => exact hSR
              · have hs3 : Since wB (wx52.alloc (.cells #[.slice none 0 0, .slice none 0 0, .slice none 0 0, .int .i64 0, .int .i64 0, .slice none 0 0, .slice none 0 0] 29)) := hs2.alloc _
                have hge : wB.heap.size ≤ wx52.heap.size := (hs2).size
                replace hW3 := own_since hW3 (((Since.refl wx52).alloc (.cells #[.slice none 0 0, .slice none 0 0, .slice none 0 0, .int .i64 0, .int .i64 0, .slice none 0 0, .slice none 0 0] 29)))
                have hCel : Cel (wx52.alloc (.cells #[.slice none 0 0, .slice none 0 0, .slice none 0 0, .int .i64 0, .int .i64 0, .slice none 0 0, .slice none 0 0] 29)) wx52.heap.size #[.slice none 0 0, .slice none 0 0, .slice none 0 0, .int .i64 0, .int .i64 0, .slice none 0 0, .slice none 0 0] 29 := heap_alloc_new _ _
                refine hx_call (i := 8) (oi := _) 32 #[.slice a4 pd1.length e4] rfl rfl (by kernel_rfl) (by kernel_rfl) (by kernel_rfl) (ownR_prd _ _ _ _ _ (own_since HX4.out hs3) HOX4.out (by have := HLS.out.2.1; omega)) ?_
                rintro e wx53 ⟨v4, rfl, hW4, hb⟩
                have hs4 : Since wB wx53 := hs3.trans hb
                replace hW3 := own_since hW3 (hb)
                replace hCel := hCel.next hb
                replace hW4 := own_base hW4 (hs3).size
                obtain ⟨b4, d4, rfl⟩ := own_slice hW4
                clear hb
                refine ⟨_, rfl, hs4, ?_⟩
                refine hx_append (i := 11) (oi := _) (.tmp 71) (.tmp 73) 24 wB.heap.size 36 i4 (.agg #[.string ByteArray.empty, .int .i64 0]) 2 24 (.slice b4 pd1.length d4) pd1.length X4 wB.heap.size x4 pd2.length y4 Y4 rfl rfl (by kernel_rfl) (by kernel_rfl) rfl Tryz.underlying24 I4.out.1 I4.out.2.1 I4.out.2.2.1 I4.out.2.2.2 rfl (by decide) (by kernel_rfl) hW4 (by kernel_rfl) (reads_next HRD4.out hs4) HOY4.out (by have := HLS.out.2.1; have := HLT.out.2.1; unfold maxLen; omega) (by have := HLS.out.2.1; have := HLT.out.2.1; omega) (hs4).size ?_
                intro vn4 wx54 hX4 hg4 _
                have hs5 : Since wB wx54 := since_grow hs4 hW4 (Nat.le_refl _) hg4
                replace hW3 := own_other hW3 hW4 (by decide) hg4
                replace hCel := cel_own hCel hW4 (by decide) hg4
                replace hW4 := hX4
                clear hX4 hg4
                obtain ⟨p4, q4, rfl⟩ := own_slice hW4
                refine ⟨hs5, ?_⟩
                refine hx_call (i := 14) (oi := _) 33 #[.slice a5 cl1.length e5] rfl rfl (by kernel_rfl) (by kernel_rfl) (by kernel_rfl) (ownR_clr _ _ _ _ _ (own_since HX5.out hs5) HOX5.out (by have := HLS.out.2.2.1; omega)) ?_
                rintro e wx55 ⟨v5, rfl, hW5, hb⟩
                have hs6 : Since wB wx55 := hs5.trans hb
                replace hW3 := own_since hW3 (hb)
                replace hCel := hCel.next hb
                replace hW4 := own_since hW4 (hb)
                replace hW5 := own_base hW5 (hs5).size
                obtain ⟨b5, d5, rfl⟩ := own_slice hW5
                clear hb
                refine ⟨_, rfl, hs6, ?_⟩
                refine hx_append (i := 17) (oi := _) (.tmp 77) (.tmp 79) 25 wB.heap.size 38 i5 (.agg #[.string ByteArray.empty, .slice none 0 0]) 2 40 (.slice b5 cl1.length d5) cl1.length X5 wB.heap.size x5 cl2.length y5 Y5 rfl rfl (by kernel_rfl) (by kernel_rfl) rfl Tryz.underlying25 I5.out.1 I5.out.2.1 I5.out.2.2.1 I5.out.2.2.2 rfl (by decide) (by kernel_rfl) hW5 (by kernel_rfl) (reads_next HRD5.out hs6) HOY5.out (by have := HLS.out.2.2.1; have := HLT.out.2.2.1; unfold maxLen; omega) (by have := HLS.out.2.2.1; have := HLT.out.2.2.1; omega) (hs6).size ?_
                intro vn5 wx56 hX5 hg5 _
                have hs7 : Since wB wx56 := since_grow hs6 hW5 (Nat.le_refl _) hg5
                replace hW3 := own_other hW3 hW5 (by decide) hg5
                replace hCel := cel_own hCel hW5 (by decide) hg5
                replace hW4 := own_other hW4 hW5 (by decide) hg5
                replace hW5 := hX5
                clear hX5 hg5
                obtain ⟨p5, q5, rfl⟩ := own_slice hW5
                refine ⟨hs7, ?_⟩
                refine hx_call (i := 30) (oi := _) 34 #[.slice a8 ru1.length e8] rfl rfl (by kernel_rfl) (by kernel_rfl) (by kernel_rfl) (ownR_rul _ _ _ _ _ (own_since HX8.out hs7) HOX8.out (by have := HLS.out.2.2.2.1; omega)) ?_
                rintro e wx57 ⟨v8, rfl, hW8, hb⟩
                have hs8 : Since wB wx57 := hs7.trans hb
                replace hW3 := own_since hW3 (hb)
                replace hCel := hCel.next hb
                replace hW4 := own_since hW4 (hb)
                replace hW5 := own_since hW5 (hb)
                replace hW8 := own_base hW8 (hs7).size
                obtain ⟨b8, d8, rfl⟩ := own_slice hW8
                clear hb
                refine ⟨_, rfl, hs8, ?_⟩
                refine hx_append (i := 33) (oi := _) (.tmp 93) (.tmp 95) 26 wB.heap.size 47 i8 (.agg #[.string ByteArray.empty, .string ByteArray.empty, .int .i64 0, .bool false, .string ByteArray.empty, .bool false, .string ByteArray.empty, .bool false, .string ByteArray.empty, .bool false, .string ByteArray.empty, .slice none 0 0]) 12 160 (.slice b8 ru1.length d8) ru1.length X8 wB.heap.size x8 ru2.length y8 Y8 rfl rfl (by kernel_rfl) (by kernel_rfl) rfl Tryz.underlying26 I8.out.1 I8.out.2.1 I8.out.2.2.1 I8.out.2.2.2 rfl (by decide) (by kernel_rfl) hW8 (by kernel_rfl) (reads_next HRD8.out hs8) HOY8.out (by have := HLS.out.2.2.2.1; have := HLT.out.2.2.2.1; unfold maxLen; omega) (by have := HLS.out.2.2.2.1; have := HLT.out.2.2.2.1; omega) (hs8).size ?_
                intro vn8 wx58 hX8 hg8 _
                have hs9 : Since wB wx58 := since_grow hs8 hW8 (Nat.le_refl _) hg8
                replace hW3 := own_other hW3 hW8 (by decide) hg8
                replace hCel := cel_own hCel hW8 (by decide) hg8
                replace hW4 := own_other hW4 hW8 (by decide) hg8
                replace hW5 := own_other hW5 hW8 (by decide) hg8
                replace hW8 := hX8
                clear hX8 hg8
                obtain ⟨p8, q8, rfl⟩ := own_slice hW8
                refine ⟨hs9, ?_⟩
                refine hx_call (i := 36) (oi := _) 35 #[.slice a9 gr1.length e9] rfl rfl (by kernel_rfl) (by kernel_rfl) (by kernel_rfl) (ownR_grn _ _ _ _ _ (own_since HX9.out hs9) HOX9.out (by have := HLS.out.2.2.2.2; omega)) ?_
                rintro e wx59 ⟨v9, rfl, hW9, hb⟩
                have hs10 : Since wB wx59 := hs9.trans hb
                replace hW3 := own_since hW3 (hb)
                replace hCel := hCel.next hb
                replace hW4 := own_since hW4 (hb)
                replace hW5 := own_since hW5 (hb)
                replace hW8 := own_since hW8 (hb)
                replace hW9 := own_base hW9 (hs9).size
                obtain ⟨b9, d9, rfl⟩ := own_slice hW9
                clear hb
                refine ⟨_, rfl, hs10, ?_⟩
                refine hx_append (i := 39) (oi := _) (.tmp 99) (.tmp 101) 27 wB.heap.size 49 i9 (.agg #[.string ByteArray.empty, .string ByteArray.empty, .string ByteArray.empty, .int .i64 0, .bool false, .string ByteArray.empty, .bool false, .string ByteArray.empty, .bool false, .string ByteArray.empty, .bool false, .string ByteArray.empty, .slice none 0 0]) 13 176 (.slice b9 gr1.length d9) gr1.length X9 wB.heap.size x9 gr2.length y9 Y9 rfl rfl (by kernel_rfl) (by kernel_rfl) rfl Tryz.underlying27 I9.out.1 I9.out.2.1 I9.out.2.2.1 I9.out.2.2.2 rfl (by decide) (by kernel_rfl) hW9 (by kernel_rfl) (reads_next HRD9.out hs10) HOY9.out (by have := HLS.out.2.2.2.2; have := HLT.out.2.2.2.2; unfold maxLen; omega) (by have := HLS.out.2.2.2.2; have := HLT.out.2.2.2.2; omega) (hs10).size ?_
                intro vn9 wx60 hX9 hg9 _
                have hs11 : Since wB wx60 := since_grow hs10 hW9 (Nat.le_refl _) hg9
                replace hW3 := own_other hW3 hW9 (by decide) hg9
                replace hCel := cel_own hCel hW9 (by decide) hg9
                replace hW4 := own_other hW4 hW9 (by decide) hg9
                replace hW5 := own_other hW5 hW9 (by decide) hg9
                replace hW8 := own_other hW8 hW9 (by decide) hg9
                replace hW9 := hX9
                clear hX9 hg9
                obtain ⟨p9, q9, rfl⟩ := own_slice hW9
                refine ⟨hs11, ?_⟩
                refine hx_take (i := 40) (oi := _) (v := .agg #[.slice p3 (pr1.length + pr2.length) q3, .slice p4 (pd1.length + pd2.length) q4, .slice p5 (cl1.length + cl2.length) q5, .int .i64 (max qu1 qu2), .int .i64 (max bu1 bu2), .slice p8 (ru1.length + ru2.length) q8, .slice p9 (gr1.length + gr2.length) q9]) rfl rfl hns (by kernel_rfl) (by kernel_rfl) hQ (by kernel_rfl) (fun _ _ => by kernel_rfl) hs11 ?_
                have hs12 : Since wB (wx60.setRow (wx52.heap.size) #[.slice p3 (pr1.length + pr2.length) q3, .slice p4 (pd1.length + pd2.length) q4, .slice p5 (cl1.length + cl2.length) q5, .int .i64 (max qu1 qu2), .int .i64 (max bu1 bu2), .slice p8 (ru1.length + ru2.length) q8, .slice p9 (gr1.length + gr2.length) q9]) := since_setRowP hs11 hge _
                have hone : Hid ((#[.slice p3 (pr1.length + pr2.length) q3, .slice p4 (pd1.length + pd2.length) q4, .slice p5 (cl1.length + cl2.length) q5, .int .i64 (max qu1 qu2), .int .i64 (max bu1 bu2), .slice p8 (ru1.length + ru2.length) q8, .slice p9 (gr1.length + gr2.length) q9] : Array Value).all (·.oneCell') = true) := by show _ = _; simp [Value.oneCell']
                refine hx_store (i := 42) (oi := _) (wx60.setRow (wx52.heap.size) #[.slice p3 (pr1.length + pr2.length) q3, .slice p4 (pd1.length + pd2.length) q4, .slice p5 (cl1.length + cl2.length) q5, .int .i64 (max qu1 qu2), .int .i64 (max bu1 bu2), .slice p8 (ru1.length + ru2.length) q8, .slice p9 (gr1.length + gr2.length) q9]) rfl rfl (by kernel_rfl) (by kernel_rfl) (st_rowP (old := #[.slice none 0 0, .slice none 0 0, .slice none 0 0, .int .i64 0, .int .i64 0, .slice none 0 0, .slice none 0 0]) (cells := #[.slice p3 (pr1.length + pr2.length) q3, .slice p4 (pd1.length + pd2.length) q4, .slice p5 (cl1.length + cl2.length) q5, .int .i64 (max qu1 qu2), .int .i64 (max bu1 bu2), .slice p8 (ru1.length + ru2.length) q8, .slice p9 (gr1.length + gr2.length) q9]) rfl (by kernel_rfl) (by kernel_rfl) (by kernel_rfl) rfl hone.out _ hCel) hs12 ?_
                replace hW3 := own_setRow (ds := #[.slice p3 (pr1.length + pr2.length) q3, .slice p4 (pd1.length + pd2.length) q4, .slice p5 (cl1.length + cl2.length) q5, .int .i64 (max qu1 qu2), .int .i64 (max bu1 bu2), .slice p8 (ru1.length + ru2.length) q8, .slice p9 (gr1.length + gr2.length) q9]) hW3 hCel (by decide)
                replace hW4 := own_setRow (ds := #[.slice p3 (pr1.length + pr2.length) q3, .slice p4 (pd1.length + pd2.length) q4, .slice p5 (cl1.length + cl2.length) q5, .int .i64 (max qu1 qu2), .int .i64 (max bu1 bu2), .slice p8 (ru1.length + ru2.length) q8, .slice p9 (gr1.length + gr2.length) q9]) hW4 hCel (by decide)
                replace hW5 := own_setRow (ds := #[.slice p3 (pr1.length + pr2.length) q3, .slice p4 (pd1.length + pd2.length) q4, .slice p5 (cl1.length + cl2.length) q5, .int .i64 (max qu1 qu2), .int .i64 (max bu1 bu2), .slice p8 (ru1.length + ru2.length) q8, .slice p9 (gr1.length + gr2.length) q9]) hW5 hCel (by decide)
                replace hW8 := own_setRow (ds := #[.slice p3 (pr1.length + pr2.length) q3, .slice p4 (pd1.length + pd2.length) q4, .slice p5 (cl1.length + cl2.length) q5, .int .i64 (max qu1 qu2), .int .i64 (max bu1 bu2), .slice p8 (ru1.length + ru2.length) q8, .slice p9 (gr1.length + gr2.length) q9]) hW8 hCel (by decide)
                replace hW9 := own_setRow (ds := #[.slice p3 (pr1.length + pr2.length) q3, .slice p4 (pd1.length + pd2.length) q4, .slice p5 (cl1.length + cl2.length) q5, .int .i64 (max qu1 qu2), .int .i64 (max bu1 bu2), .slice p8 (ru1.length + ru2.length) q8, .slice p9 (gr1.length + gr2.length) q9]) hW9 hCel (by decide)
                replace hCel := hCel.row #[.slice p3 (pr1.length + pr2.length) q3, .slice p4 (pd1.length + pd2.length) q4, .slice p5 (cl1.length + cl2.length) q5, .int .i64 (max qu1 qu2), .int .i64 (max bu1 bu2), .slice p8 (ru1.length + ru2.length) q8, .slice p9 (gr1.length + gr2.length) q9]
                refine wpAnyH_done (by kernel_rfl) ?_ _
                clear hns hQ
                simp only [List.set_cons_zero, List.set_cons_succ]
                obtain ⟨C, U, G, hPR⟩ := HBOTH.out _ _ _ _ _ _ _ hs12 hW3 hW4 hW5 hW8 hW9
                have HC := Lib.hid (HS2.out _ hs12 _ _ _ _ _ _ _ _ hPR)
                have hB3 := hB3.next hs12
                have hSW := hs12
                clear hPR hW3 hW4 hW5 hW8 hW9 hge hone hs0 hs1 hs2 hs3 hs4 hs5 hs6 hs7 hs8 hs9 hs10 hs11 hs12
                generalize (wx60.setRow (wx52.heap.size) #[.slice p3 (pr1.length + pr2.length) q3, .slice p4 (pd1.length + pd2.length) q4, .slice p5 (cl1.length + cl2.length) q5, .int .i64 (max qu1 qu2), .int .i64 (max bu1 bu2), .slice p8 (ru1.length + ru2.length) q8, .slice p9 (gr1.length + gr2.length) q9]) = wq at *
                generalize wx52.heap.size = gN at *
                have k0 : wq.cell? ⟨g3, 0, none⟩ = some (.slice z3 pr3.length k3) := hB3.cell 0
                have k1 : wq.cell? ⟨g3, 1, none⟩ = some (.slice z4 pd3.length k4) := hB3.cell 1
                have k2 : wq.cell? ⟨g3, 2, none⟩ = some (.slice z5 cl3.length k5) := hB3.cell 2
                have k3 : wq.cell? ⟨g3, 3, none⟩ = some (.int .i64 qu3) := hB3.cell 3
                have k4 : wq.cell? ⟨g3, 4, none⟩ = some (.int .i64 bu3) := hB3.cell 4
                have k5 : wq.cell? ⟨g3, 5, none⟩ = some (.slice z8 ru3.length k8) := hB3.cell 5
                have k6 : wq.cell? ⟨g3, 6, none⟩ = some (.slice z9 gr3.length k9) := hB3.cell 6
                have l0 : wq.cell? ⟨gN, 0, none⟩ = some (.slice p3 (pr1.length + pr2.length) q3) := hCel.cell 0
                have l1 : wq.cell? ⟨gN, 1, none⟩ = some (.slice p4 (pd1.length + pd2.length) q4) := hCel.cell 1
                have l2 : wq.cell? ⟨gN, 2, none⟩ = some (.slice p5 (cl1.length + cl2.length) q5) := hCel.cell 2
                have l3 : wq.cell? ⟨gN, 3, none⟩ = some (.int .i64 (max qu1 qu2)) := hCel.cell 3
                have l4 : wq.cell? ⟨gN, 4, none⟩ = some (.int .i64 (max bu1 bu2)) := hCel.cell 4
                have l5 : wq.cell? ⟨gN, 5, none⟩ = some (.slice p8 (ru1.length + ru2.length) q8) := hCel.cell 5
                have l6 : wq.cell? ⟨gN, 6, none⟩ = some (.slice p9 (gr1.length + gr2.length) q9) := hCel.cell 6
                clear hB3 hCel
                go_wp2_with fail
                refine HC.out.mono ?_
                rintro e wr ⟨rfl, hb⟩
                have hSR := hSW.trans hb
                clear k0 l0 k1 l1 k2 l2 k3 l3 k4 l4 k5 l5 k6 l6
                go_wp2_with fail
                go_meet
                case rel => exact hSR
            · have hs2 : Since wB (wx51.alloc (.cells #[.slice none 0 0, .slice none 0 0, .slice none 0 0, .int .i64 0, .int .i64 0, .slice none 0 0, .slice none 0 0] 29)) := hs1.alloc _
              have hge : wB.heap.size ≤ wx51.heap.size := (hs1).size
              replace hW3 := own_since hW3 (((Since.refl wx51).alloc (.cells #[.slice none 0 0, .slice none 0 0, .slice none 0 0, .int .i64 0, .int .i64 0, .slice none 0 0, .slice none 0 0] 29)))
              have hCel : Cel (wx51.alloc (.cells #[.slice none 0 0, .slice none 0 0, .slice none 0 0, .int .i64 0, .int .i64 0, .slice none 0 0, .slice none 0 0] 29)) wx51.heap.size #[.slice none 0 0, .slice none 0 0, .slice none 0 0, .int .i64 0, .int .i64 0, .slice none 0 0, .slice none 0 0] 29 := heap_alloc_new _ _
              refine wp_value (v := .pointer (some ⟨wx51.heap.size, 0, none⟩)) (w' := (wx51.alloc (.cells #[.slice none 0 0, .slice none 0 0, .slice none 0 0, .int .i64 0, .int .i64 0, .slice none 0 0, .slice none 0 0] 29))) rfl (by kernel_rfl) ⟨hs2, ?_⟩
              refine hx_append (i := 5) (oi := _) (.tmp 65) (.tmp 67) 23 wB.heap.size 9 i3 (.string ByteArray.empty) 1 16 (.slice b3 pr1.length d3) pr1.length X3 wB.heap.size x3 pr2.length y3 Y3 rfl rfl (by kernel_rfl) (by kernel_rfl) rfl Tryz.underlying23 I3.out.1 I3.out.2.1 I3.out.2.2.1 I3.out.2.2.2 rfl (by decide) (by kernel_rfl) hW3 (by kernel_rfl) (reads_next HRD3.out hs2) HOY3.out (by have := HLS.out.1; have := HLT.out.1; unfold maxLen; omega) (by have := HLS.out.1; have := HLT.out.1; omega) (hs2).size ?_
              intro vn3 wx52 hX3 hg3 _
              have hs3 : Since wB wx52 := since_grow hs2 hW3 (Nat.le_refl _) hg3
              replace hCel := cel_own hCel hW3 (by decide) hg3
              replace hW3 := hX3
              clear hX3 hg3
              obtain ⟨p3, q3, rfl⟩ := own_slice hW3
              refine ⟨hs3, ?_⟩
              refine hx_call (i := 8) (oi := _) 32 #[.slice a4 pd1.length e4] rfl rfl (by kernel_rfl) (by kernel_rfl) (by kernel_rfl) (ownR_prd _ _ _ _ _ (own_since HX4.out hs3) HOX4.out (by have := HLS.out.2.1; omega)) ?_
              rintro e wx53 ⟨v4, rfl, hW4, hb⟩
              have hs4 : Since wB wx53 := hs3.trans hb
              replace hW3 := own_since hW3 (hb)
              replace hCel := hCel.next hb
              replace hW4 := own_base hW4 (hs3).size
              obtain ⟨b4, d4, rfl⟩ := own_slice hW4
              clear hb
              refine ⟨_, rfl, hs4, ?_⟩
              refine hx_append (i := 11) (oi := _) (.tmp 71) (.tmp 73) 24 wB.heap.size 36 i4 (.agg #[.string ByteArray.empty, .int .i64 0]) 2 24 (.slice b4 pd1.length d4) pd1.length X4 wB.heap.size x4 pd2.length y4 Y4 rfl rfl (by kernel_rfl) (by kernel_rfl) rfl Tryz.underlying24 I4.out.1 I4.out.2.1 I4.out.2.2.1 I4.out.2.2.2 rfl (by decide) (by kernel_rfl) hW4 (by kernel_rfl) (reads_next HRD4.out hs4) HOY4.out (by have := HLS.out.2.1; have := HLT.out.2.1; unfold maxLen; omega) (by have := HLS.out.2.1; have := HLT.out.2.1; omega) (hs4).size ?_
              intro vn4 wx54 hX4 hg4 _
              have hs5 : Since wB wx54 := since_grow hs4 hW4 (Nat.le_refl _) hg4
              replace hW3 := own_other hW3 hW4 (by decide) hg4
              replace hCel := cel_own hCel hW4 (by decide) hg4
              replace hW4 := hX4
              clear hX4 hg4
              obtain ⟨p4, q4, rfl⟩ := own_slice hW4
              refine ⟨hs5, ?_⟩
              refine hx_call (i := 14) (oi := _) 33 #[.slice a5 cl1.length e5] rfl rfl (by kernel_rfl) (by kernel_rfl) (by kernel_rfl) (ownR_clr _ _ _ _ _ (own_since HX5.out hs5) HOX5.out (by have := HLS.out.2.2.1; omega)) ?_
              rintro e wx55 ⟨v5, rfl, hW5, hb⟩
              have hs6 : Since wB wx55 := hs5.trans hb
              replace hW3 := own_since hW3 (hb)
              replace hCel := hCel.next hb
              replace hW4 := own_since hW4 (hb)
              replace hW5 := own_base hW5 (hs5).size
              obtain ⟨b5, d5, rfl⟩ := own_slice hW5
              clear hb
              refine ⟨_, rfl, hs6, ?_⟩
              refine hx_append (i := 17) (oi := _) (.tmp 77) (.tmp 79) 25 wB.heap.size 38 i5 (.agg #[.string ByteArray.empty, .slice none 0 0]) 2 40 (.slice b5 cl1.length d5) cl1.length X5 wB.heap.size x5 cl2.length y5 Y5 rfl rfl (by kernel_rfl) (by kernel_rfl) rfl Tryz.underlying25 I5.out.1 I5.out.2.1 I5.out.2.2.1 I5.out.2.2.2 rfl (by decide) (by kernel_rfl) hW5 (by kernel_rfl) (reads_next HRD5.out hs6) HOY5.out (by have := HLS.out.2.2.1; have := HLT.out.2.2.1; unfold maxLen; omega) (by have := HLS.out.2.2.1; have := HLT.out.2.2.1; omega) (hs6).size ?_
              intro vn5 wx56 hX5 hg5 _
              have hs7 : Since wB wx56 := since_grow hs6 hW5 (Nat.le_refl _) hg5
              replace hW3 := own_other hW3 hW5 (by decide) hg5
              replace hCel := cel_own hCel hW5 (by decide) hg5
              replace hW4 := own_other hW4 hW5 (by decide) hg5
              replace hW5 := hX5
              clear hX5 hg5
              obtain ⟨p5, q5, rfl⟩ := own_slice hW5
              refine ⟨hs7, ?_⟩
              refine hx_call (i := 30) (oi := _) 34 #[.slice a8 ru1.length e8] rfl rfl (by kernel_rfl) (by kernel_rfl) (by kernel_rfl) (ownR_rul _ _ _ _ _ (own_since HX8.out hs7) HOX8.out (by have := HLS.out.2.2.2.1; omega)) ?_
              rintro e wx57 ⟨v8, rfl, hW8, hb⟩
              have hs8 : Since wB wx57 := hs7.trans hb
              replace hW3 := own_since hW3 (hb)
              replace hCel := hCel.next hb
              replace hW4 := own_since hW4 (hb)
              replace hW5 := own_since hW5 (hb)
              replace hW8 := own_base hW8 (hs7).size
              obtain ⟨b8, d8, rfl⟩ := own_slice hW8
              clear hb
              refine ⟨_, rfl, hs8, ?_⟩
              refine hx_append (i := 33) (oi := _) (.tmp 93) (.tmp 95) 26 wB.heap.size 47 i8 (.agg #[.string ByteArray.empty, .string ByteArray.empty, .int .i64 0, .bool false, .string ByteArray.empty, .bool false, .string ByteArray.empty, .bool false, .string ByteArray.empty, .bool false, .string ByteArray.empty, .slice none 0 0]) 12 160 (.slice b8 ru1.length d8) ru1.length X8 wB.heap.size x8 ru2.length y8 Y8 rfl rfl (by kernel_rfl) (by kernel_rfl) rfl Tryz.underlying26 I8.out.1 I8.out.2.1 I8.out.2.2.1 I8.out.2.2.2 rfl (by decide) (by kernel_rfl) hW8 (by kernel_rfl) (reads_next HRD8.out hs8) HOY8.out (by have := HLS.out.2.2.2.1; have := HLT.out.2.2.2.1; unfold maxLen; omega) (by have := HLS.out.2.2.2.1; have := HLT.out.2.2.2.1; omega) (hs8).size ?_
              intro vn8 wx58 hX8 hg8 _
              have hs9 : Since wB wx58 := since_grow hs8 hW8 (Nat.le_refl _) hg8
              replace hW3 := own_other hW3 hW8 (by decide) hg8
              replace hCel := cel_own hCel hW8 (by decide) hg8
              replace hW4 := own_other hW4 hW8 (by decide) hg8
              replace hW5 := own_other hW5 hW8 (by decide) hg8
              replace hW8 := hX8
              clear hX8 hg8
              obtain ⟨p8, q8, rfl⟩ := own_slice hW8
              refine ⟨hs9, ?_⟩
              refine hx_call (i := 36) (oi := _) 35 #[.slice a9 gr1.length e9] rfl rfl (by kernel_rfl) (by kernel_rfl) (by kernel_rfl) (ownR_grn _ _ _ _ _ (own_since HX9.out hs9) HOX9.out (by have := HLS.out.2.2.2.2; omega)) ?_
              rintro e wx59 ⟨v9, rfl, hW9, hb⟩
              have hs10 : Since wB wx59 := hs9.trans hb
              replace hW3 := own_since hW3 (hb)
              replace hCel := hCel.next hb
              replace hW4 := own_since hW4 (hb)
              replace hW5 := own_since hW5 (hb)
              replace hW8 := own_since hW8 (hb)
              replace hW9 := own_base hW9 (hs9).size
              obtain ⟨b9, d9, rfl⟩ := own_slice hW9
              clear hb
              refine ⟨_, rfl, hs10, ?_⟩
              refine hx_append (i := 39) (oi := _) (.tmp 99) (.tmp 101) 27 wB.heap.size 49 i9 (.agg #[.string ByteArray.empty, .string ByteArray.empty, .string ByteArray.empty, .int .i64 0, .bool false, .string ByteArray.empty, .bool false, .string ByteArray.empty, .bool false, .string ByteArray.empty, .bool false, .string ByteArray.empty, .slice none 0 0]) 13 176 (.slice b9 gr1.length d9) gr1.length X9 wB.heap.size x9 gr2.length y9 Y9 rfl rfl (by kernel_rfl) (by kernel_rfl) rfl Tryz.underlying27 I9.out.1 I9.out.2.1 I9.out.2.2.1 I9.out.2.2.2 rfl (by decide) (by kernel_rfl) hW9 (by kernel_rfl) (reads_next HRD9.out hs10) HOY9.out (by have := HLS.out.2.2.2.2; have := HLT.out.2.2.2.2; unfold maxLen; omega) (by have := HLS.out.2.2.2.2; have := HLT.out.2.2.2.2; omega) (hs10).size ?_
              intro vn9 wx60 hX9 hg9 _
              have hs11 : Since wB wx60 := since_grow hs10 hW9 (Nat.le_refl _) hg9
              replace hW3 := own_other hW3 hW9 (by decide) hg9
              replace hCel := cel_own hCel hW9 (by decide) hg9
              replace hW4 := own_other hW4 hW9 (by decide) hg9
              replace hW5 := own_other hW5 hW9 (by decide) hg9
              replace hW8 := own_other hW8 hW9 (by decide) hg9
              replace hW9 := hX9
              clear hX9 hg9
              obtain ⟨p9, q9, rfl⟩ := own_slice hW9
              refine ⟨hs11, ?_⟩
              refine hx_take (i := 40) (oi := _) (v := .agg #[.slice p3 (pr1.length + pr2.length) q3, .slice p4 (pd1.length + pd2.length) q4, .slice p5 (cl1.length + cl2.length) q5, .int .i64 (max qu1 qu2), .int .i64 (max bu1 bu2), .slice p8 (ru1.length + ru2.length) q8, .slice p9 (gr1.length + gr2.length) q9]) rfl rfl hns (by kernel_rfl) (by kernel_rfl) hQ (by kernel_rfl) (fun _ _ => by kernel_rfl) hs11 ?_
              have hs12 : Since wB (wx60.setRow (wx51.heap.size) #[.slice p3 (pr1.length + pr2.length) q3, .slice p4 (pd1.length + pd2.length) q4, .slice p5 (cl1.length + cl2.length) q5, .int .i64 (max qu1 qu2), .int .i64 (max bu1 bu2), .slice p8 (ru1.length + ru2.length) q8, .slice p9 (gr1.length + gr2.length) q9]) := since_setRowP hs11 hge _
              have hone : Hid ((#[.slice p3 (pr1.length + pr2.length) q3, .slice p4 (pd1.length + pd2.length) q4, .slice p5 (cl1.length + cl2.length) q5, .int .i64 (max qu1 qu2), .int .i64 (max bu1 bu2), .slice p8 (ru1.length + ru2.length) q8, .slice p9 (gr1.length + gr2.length) q9] : Array Value).all (·.oneCell') = true) := by show _ = _; simp [Value.oneCell']
              refine hx_store (i := 42) (oi := _) (wx60.setRow (wx51.heap.size) #[.slice p3 (pr1.length + pr2.length) q3, .slice p4 (pd1.length + pd2.length) q4, .slice p5 (cl1.length + cl2.length) q5, .int .i64 (max qu1 qu2), .int .i64 (max bu1 bu2), .slice p8 (ru1.length + ru2.length) q8, .slice p9 (gr1.length + gr2.length) q9]) rfl rfl (by kernel_rfl) (by kernel_rfl) (st_rowP (old := #[.slice none 0 0, .slice none 0 0, .slice none 0 0, .int .i64 0, .int .i64 0, .slice none 0 0, .slice none 0 0]) (cells := #[.slice p3 (pr1.length + pr2.length) q3, .slice p4 (pd1.length + pd2.length) q4, .slice p5 (cl1.length + cl2.length) q5, .int .i64 (max qu1 qu2), .int .i64 (max bu1 bu2), .slice p8 (ru1.length + ru2.length) q8, .slice p9 (gr1.length + gr2.length) q9]) rfl (by kernel_rfl) (by kernel_rfl) (by kernel_rfl) rfl hone.out _ hCel) hs12 ?_
              replace hW3 := own_setRow (ds := #[.slice p3 (pr1.length + pr2.length) q3, .slice p4 (pd1.length + pd2.length) q4, .slice p5 (cl1.length + cl2.length) q5, .int .i64 (max qu1 qu2), .int .i64 (max bu1 bu2), .slice p8 (ru1.length + ru2.length) q8, .slice p9 (gr1.length + gr2.length) q9]) hW3 hCel (by decide)
              replace hW4 := own_setRow (ds := #[.slice p3 (pr1.length + pr2.length) q3, .slice p4 (pd1.length + pd2.length) q4, .slice p5 (cl1.length + cl2.length) q5, .int .i64 (max qu1 qu2), .int .i64 (max bu1 bu2), .slice p8 (ru1.length + ru2.length) q8, .slice p9 (gr1.length + gr2.length) q9]) hW4 hCel (by decide)
              replace hW5 := own_setRow (ds := #[.slice p3 (pr1.length + pr2.length) q3, .slice p4 (pd1.length + pd2.length) q4, .slice p5 (cl1.length + cl2.length) q5, .int .i64 (max qu1 qu2), .int .i64 (max bu1 bu2), .slice p8 (ru1.length + ru2.length) q8, .slice p9 (gr1.length + gr2.length) q9]) hW5 hCel (by decide)
              replace hW8 := own_setRow (ds := #[.slice p3 (pr1.length + pr2.length) q3, .slice p4 (pd1.length + pd2.length) q4, .slice p5 (cl1.length + cl2.length) q5, .int .i64 (max qu1 qu2), .int .i64 (max bu1 bu2), .slice p8 (ru1.length + ru2.length) q8, .slice p9 (gr1.length + gr2.length) q9]) hW8 hCel (by decide)
              replace hW9 := own_setRow (ds := #[.slice p3 (pr1.length + pr2.length) q3, .slice p4 (pd1.length + pd2.length) q4, .slice p5 (cl1.length + cl2.length) q5, .int .i64 (max qu1 qu2), .int .i64 (max bu1 bu2), .slice p8 (ru1.length + ru2.length) q8, .slice p9 (gr1.length + gr2.length) q9]) hW9 hCel (by decide)
              replace hCel := hCel.row #[.slice p3 (pr1.length + pr2.length) q3, .slice p4 (pd1.length + pd2.length) q4, .slice p5 (cl1.length + cl2.length) q5, .int .i64 (max qu1 qu2), .int .i64 (max bu1 bu2), .slice p8 (ru1.length + ru2.length) q8, .slice p9 (gr1.length + gr2.length) q9]
              refine wpAnyH_done (by kernel_rfl) ?_ _
              clear hns hQ
              simp only [List.set_cons_zero, List.set_cons_succ]
              obtain ⟨C, U, G, hPR⟩ := HBOTH.out _ _ _ _ _ _ _ hs12 hW3 hW4 hW5 hW8 hW9
              have HC := Lib.hid (HS2.out _ hs12 _ _ _ _ _ _ _ _ hPR)
              have hB3 := hB3.next hs12
              have hSW := hs12
              clear hPR hW3 hW4 hW5 hW8 hW9 hge hone hs0 hs1 hs2 hs3 hs4 hs5 hs6 hs7 hs8 hs9 hs10 hs11 hs12
              generalize (wx60.setRow (wx51.heap.size) #[.slice p3 (pr1.length + pr2.length) q3, .slice p4 (pd1.length + pd2.length) q4, .slice p5 (cl1.length + cl2.length) q5, .int .i64 (max qu1 qu2), .int .i64 (max bu1 bu2), .slice p8 (ru1.length + ru2.length) q8, .slice p9 (gr1.length + gr2.length) q9]) = wq at *
              generalize wx51.heap.size = gN at *
              have k0 : wq.cell? ⟨g3, 0, none⟩ = some (.slice z3 pr3.length k3) := hB3.cell 0
              have k1 : wq.cell? ⟨g3, 1, none⟩ = some (.slice z4 pd3.length k4) := hB3.cell 1
              have k2 : wq.cell? ⟨g3, 2, none⟩ = some (.slice z5 cl3.length k5) := hB3.cell 2
              have k3 : wq.cell? ⟨g3, 3, none⟩ = some (.int .i64 qu3) := hB3.cell 3
              have k4 : wq.cell? ⟨g3, 4, none⟩ = some (.int .i64 bu3) := hB3.cell 4
              have k5 : wq.cell? ⟨g3, 5, none⟩ = some (.slice z8 ru3.length k8) := hB3.cell 5
              have k6 : wq.cell? ⟨g3, 6, none⟩ = some (.slice z9 gr3.length k9) := hB3.cell 6
              have l0 : wq.cell? ⟨gN, 0, none⟩ = some (.slice p3 (pr1.length + pr2.length) q3) := hCel.cell 0
              have l1 : wq.cell? ⟨gN, 1, none⟩ = some (.slice p4 (pd1.length + pd2.length) q4) := hCel.cell 1
              have l2 : wq.cell? ⟨gN, 2, none⟩ = some (.slice p5 (cl1.length + cl2.length) q5) := hCel.cell 2
              have l3 : wq.cell? ⟨gN, 3, none⟩ = some (.int .i64 (max qu1 qu2)) := hCel.cell 3
              have l4 : wq.cell? ⟨gN, 4, none⟩ = some (.int .i64 (max bu1 bu2)) := hCel.cell 4
              have l5 : wq.cell? ⟨gN, 5, none⟩ = some (.slice p8 (ru1.length + ru2.length) q8) := hCel.cell 5
              have l6 : wq.cell? ⟨gN, 6, none⟩ = some (.slice p9 (gr1.length + gr2.length) q9) := hCel.cell 6
              clear hB3 hCel
              go_wp2_with fail
              refine HC.out.mono ?_
              rintro e wr ⟨rfl, hb⟩
              have hSR := hSW.trans hb
              clear k0 l0 k1 l1 k2 l2 k3 l3 k4 l4 k5 l5 k6 l6
              go_wp2_with fail
              go_meet
              case rel => exact hSR
          · have hs1 : Since wB (wB.drew.alloc (.cells #[.slice none 0 0, .slice none 0 0, .slice none 0 0, .int .i64 0, .int .i64 0, .slice none 0 0, .slice none 0 0] 29)) := hs0.alloc _
            have hge : wB.heap.size ≤ wB.drew.heap.size := (hs0).size
            have hCel : Cel (wB.drew.alloc (.cells #[.slice none 0 0, .slice none 0 0, .slice none 0 0, .int .i64 0, .int .i64 0, .slice none 0 0, .slice none 0 0] 29)) wB.drew.heap.size #[.slice none 0 0, .slice none 0 0, .slice none 0 0, .int .i64 0, .int .i64 0, .slice none 0 0, .slice none 0 0] 29 := heap_alloc_new _ _
            refine hx_call (i := 2) (oi := _) 31 #[.slice a3 pr1.length e3] rfl rfl (by kernel_rfl) (by kernel_rfl) (by kernel_rfl) (ownR_str _ _ _ _ _ (own_since HX3.out hs1) HOX3.out (by have := HLS.out.1; omega)) ?_
            rintro e wx51 ⟨v3, rfl, hW3, hb⟩
            have hs2 : Since wB wx51 := hs1.trans hb
            replace hCel := hCel.next hb
            replace hW3 := own_base hW3 (hs1).size
            obtain ⟨b3, d3, rfl⟩ := own_slice hW3
            clear hb
            refine ⟨_, rfl, hs2, ?_⟩
            refine hx_append (i := 5) (oi := _) (.tmp 65) (.tmp 67) 23 wB.heap.size 9 i3 (.string ByteArray.empty) 1 16 (.slice b3 pr1.length d3) pr1.length X3 wB.heap.size x3 pr2.length y3 Y3 rfl rfl (by kernel_rfl) (by kernel_rfl) rfl Tryz.underlying23 I3.out.1 I3.out.2.1 I3.out.2.2.1 I3.out.2.2.2 rfl (by decide) (by kernel_rfl) hW3 (by kernel_rfl) (reads_next HRD3.out hs2) HOY3.out (by have := HLS.out.1; have := HLT.out.1; unfold maxLen; omega) (by have := HLS.out.1; have := HLT.out.1; omega) (hs2).size ?_
            intro vn3 wx52 hX3 hg3 _
            have hs3 : Since wB wx52 := since_grow hs2 hW3 (Nat.le_refl _) hg3
            replace hCel := cel_own hCel hW3 (by decide) hg3
            replace hW3 := hX3
            clear hX3 hg3
            obtain ⟨p3, q3, rfl⟩ := own_slice hW3
            refine ⟨hs3, ?_⟩
            refine hx_call (i := 8) (oi := _) 32 #[.slice a4 pd1.length e4] rfl rfl (by kernel_rfl) (by kernel_rfl) (by kernel_rfl) (ownR_prd _ _ _ _ _ (own_since HX4.out hs3) HOX4.out (by have := HLS.out.2.1; omega)) ?_
            rintro e wx53 ⟨v4, rfl, hW4, hb⟩
            have hs4 : Since wB wx53 := hs3.trans hb
            replace hCel := hCel.next hb
            replace hW3 := own_since hW3 (hb)
            replace hW4 := own_base hW4 (hs3).size
            obtain ⟨b4, d4, rfl⟩ := own_slice hW4
            clear hb
            refine ⟨_, rfl, hs4, ?_⟩
            refine hx_append (i := 11) (oi := _) (.tmp 71) (.tmp 73) 24 wB.heap.size 36 i4 (.agg #[.string ByteArray.empty, .int .i64 0]) 2 24 (.slice b4 pd1.length d4) pd1.length X4 wB.heap.size x4 pd2.length y4 Y4 rfl rfl (by kernel_rfl) (by kernel_rfl) rfl Tryz.underlying24 I4.out.1 I4.out.2.1 I4.out.2.2.1 I4.out.2.2.2 rfl (by decide) (by kernel_rfl) hW4 (by kernel_rfl) (reads_next HRD4.out hs4) HOY4.out (by have := HLS.out.2.1; have := HLT.out.2.1; unfold maxLen; omega) (by have := HLS.out.2.1; have := HLT.out.2.1; omega) (hs4).size ?_
            intro vn4 wx54 hX4 hg4 _
            have hs5 : Since wB wx54 := since_grow hs4 hW4 (Nat.le_refl _) hg4
            replace hCel := cel_own hCel hW4 (by decide) hg4
            replace hW3 := own_other hW3 hW4 (by decide) hg4
            replace hW4 := hX4
            clear hX4 hg4
            obtain ⟨p4, q4, rfl⟩ := own_slice hW4
            refine ⟨hs5, ?_⟩
            refine hx_call (i := 14) (oi := _) 33 #[.slice a5 cl1.length e5] rfl rfl (by kernel_rfl) (by kernel_rfl) (by kernel_rfl) (ownR_clr _ _ _ _ _ (own_since HX5.out hs5) HOX5.out (by have := HLS.out.2.2.1; omega)) ?_
            rintro e wx55 ⟨v5, rfl, hW5, hb⟩
            have hs6 : Since wB wx55 := hs5.trans hb
            replace hCel := hCel.next hb
            replace hW3 := own_since hW3 (hb)
            replace hW4 := own_since hW4 (hb)
            replace hW5 := own_base hW5 (hs5).size
            obtain ⟨b5, d5, rfl⟩ := own_slice hW5
            clear hb
            refine ⟨_, rfl, hs6, ?_⟩
            refine hx_append (i := 17) (oi := _) (.tmp 77) (.tmp 79) 25 wB.heap.size 38 i5 (.agg #[.string ByteArray.empty, .slice none 0 0]) 2 40 (.slice b5 cl1.length d5) cl1.length X5 wB.heap.size x5 cl2.length y5 Y5 rfl rfl (by kernel_rfl) (by kernel_rfl) rfl Tryz.underlying25 I5.out.1 I5.out.2.1 I5.out.2.2.1 I5.out.2.2.2 rfl (by decide) (by kernel_rfl) hW5 (by kernel_rfl) (reads_next HRD5.out hs6) HOY5.out (by have := HLS.out.2.2.1; have := HLT.out.2.2.1; unfold maxLen; omega) (by have := HLS.out.2.2.1; have := HLT.out.2.2.1; omega) (hs6).size ?_
            intro vn5 wx56 hX5 hg5 _
            have hs7 : Since wB wx56 := since_grow hs6 hW5 (Nat.le_refl _) hg5
            replace hCel := cel_own hCel hW5 (by decide) hg5
            replace hW3 := own_other hW3 hW5 (by decide) hg5
            replace hW4 := own_other hW4 hW5 (by decide) hg5
            replace hW5 := hX5
            clear hX5 hg5
            obtain ⟨p5, q5, rfl⟩ := own_slice hW5
            refine ⟨hs7, ?_⟩
            refine hx_call (i := 30) (oi := _) 34 #[.slice a8 ru1.length e8] rfl rfl (by kernel_rfl) (by kernel_rfl) (by kernel_rfl) (ownR_rul _ _ _ _ _ (own_since HX8.out hs7) HOX8.out (by have := HLS.out.2.2.2.1; omega)) ?_
            rintro e wx57 ⟨v8, rfl, hW8, hb⟩
            have hs8 : Since wB wx57 := hs7.trans hb
            replace hCel := hCel.next hb
            replace hW3 := own_since hW3 (hb)
            replace hW4 := own_since hW4 (hb)
            replace hW5 := own_since hW5 (hb)
            replace hW8 := own_base hW8 (hs7).size
            obtain ⟨b8, d8, rfl⟩ := own_slice hW8
            clear hb
            refine ⟨_, rfl, hs8, ?_⟩
            refine hx_append (i := 33) (oi := _) (.tmp 93) (.tmp 95) 26 wB.heap.size 47 i8 (.agg #[.string ByteArray.empty, .string ByteArray.empty, .int .i64 0, .bool false, .string ByteArray.empty, .bool false, .string ByteArray.empty, .bool false, .string ByteArray.empty, .bool false, .string ByteArray.empty, .slice none 0 0]) 12 160 (.slice b8 ru1.length d8) ru1.length X8 wB.heap.size x8 ru2.length y8 Y8 rfl rfl (by kernel_rfl) (by kernel_rfl) rfl Tryz.underlying26 I8.out.1 I8.out.2.1 I8.out.2.2.1 I8.out.2.2.2 rfl (by decide) (by kernel_rfl) hW8 (by kernel_rfl) (reads_next HRD8.out hs8) HOY8.out (by have := HLS.out.2.2.2.1; have := HLT.out.2.2.2.1; unfold maxLen; omega) (by have := HLS.out.2.2.2.1; have := HLT.out.2.2.2.1; omega) (hs8).size ?_
            intro vn8 wx58 hX8 hg8 _
            have hs9 : Since wB wx58 := since_grow hs8 hW8 (Nat.le_refl _) hg8
            replace hCel := cel_own hCel hW8 (by decide) hg8
            replace hW3 := own_other hW3 hW8 (by decide) hg8
            replace hW4 := own_other hW4 hW8 (by decide) hg8
            replace hW5 := own_other hW5 hW8 (by decide) hg8
            replace hW8 := hX8
            clear hX8 hg8
            obtain ⟨p8, q8, rfl⟩ := own_slice hW8
            refine ⟨hs9, ?_⟩
            refine hx_call (i := 36) (oi := _) 35 #[.slice a9 gr1.length e9] rfl rfl (by kernel_rfl) (by kernel_rfl) (by kernel_rfl) (ownR_grn _ _ _ _ _ (own_since HX9.out hs9) HOX9.out (by have := HLS.out.2.2.2.2; omega)) ?_
            rintro e wx59 ⟨v9, rfl, hW9, hb⟩
            have hs10 : Since wB wx59 := hs9.trans hb
            replace hCel := hCel.next hb
            replace hW3 := own_since hW3 (hb)
            replace hW4 := own_since hW4 (hb)
            replace hW5 := own_since hW5 (hb)
            replace hW8 := own_since hW8 (hb)
            replace hW9 := own_base hW9 (hs9).size
            obtain ⟨b9, d9, rfl⟩ := own_slice hW9
            clear hb
            refine ⟨_, rfl, hs10, ?_⟩
            refine hx_append (i := 39) (oi := _) (.tmp 99) (.tmp 101) 27 wB.heap.size 49 i9 (.agg #[.string ByteArray.empty, .string ByteArray.empty, .string ByteArray.empty, .int .i64 0, .bool false, .string ByteArray.empty, .bool false, .string ByteArray.empty, .bool false, .string ByteArray.empty, .bool false, .string ByteArray.empty, .slice none 0 0]) 13 176 (.slice b9 gr1.length d9) gr1.length X9 wB.heap.size x9 gr2.length y9 Y9 rfl rfl (by kernel_rfl) (by kernel_rfl) rfl Tryz.underlying27 I9.out.1 I9.out.2.1 I9.out.2.2.1 I9.out.2.2.2 rfl (by decide) (by kernel_rfl) hW9 (by kernel_rfl) (reads_next HRD9.out hs10) HOY9.out (by have := HLS.out.2.2.2.2; have := HLT.out.2.2.2.2; unfold maxLen; omega) (by have := HLS.out.2.2.2.2; have := HLT.out.2.2.2.2; omega) (hs10).size ?_
            intro vn9 wx60 hX9 hg9 _
            have hs11 : Since wB wx60 := since_grow hs10 hW9 (Nat.le_refl _) hg9
            replace hCel := cel_own hCel hW9 (by decide) hg9
            replace hW3 := own_other hW3 hW9 (by decide) hg9
            replace hW4 := own_other hW4 hW9 (by decide) hg9
            replace hW5 := own_other hW5 hW9 (by decide) hg9
            replace hW8 := own_other hW8 hW9 (by decide) hg9
            replace hW9 := hX9
            clear hX9 hg9
            obtain ⟨p9, q9, rfl⟩ := own_slice hW9
            refine ⟨hs11, ?_⟩
            refine hx_take (i := 40) (oi := _) (v := .agg #[.slice p3 (pr1.length + pr2.length) q3, .slice p4 (pd1.length + pd2.length) q4, .slice p5 (cl1.length + cl2.length) q5, .int .i64 (max qu1 qu2), .int .i64 (max bu1 bu2), .slice p8 (ru1.length + ru2.length) q8, .slice p9 (gr1.length + gr2.length) q9]) rfl rfl hns (by kernel_rfl) (by kernel_rfl) hQ (by kernel_rfl) (fun _ _ => by kernel_rfl) hs11 ?_
            have hs12 : Since wB (wx60.setRow (wB.drew.heap.size) #[.slice p3 (pr1.length + pr2.length) q3, .slice p4 (pd1.length + pd2.length) q4, .slice p5 (cl1.length + cl2.length) q5, .int .i64 (max qu1 qu2), .int .i64 (max bu1 bu2), .slice p8 (ru1.length + ru2.length) q8, .slice p9 (gr1.length + gr2.length) q9]) := since_setRowP hs11 hge _
            have hone : Hid ((#[.slice p3 (pr1.length + pr2.length) q3, .slice p4 (pd1.length + pd2.length) q4, .slice p5 (cl1.length + cl2.length) q5, .int .i64 (max qu1 qu2), .int .i64 (max bu1 bu2), .slice p8 (ru1.length + ru2.length) q8, .slice p9 (gr1.length + gr2.length) q9] : Array Value).all (·.oneCell') = true) := by show _ = _; simp [Value.oneCell']
            refine hx_store (i := 42) (oi := _) (wx60.setRow (wB.drew.heap.size) #[.slice p3 (pr1.length + pr2.length) q3, .slice p4 (pd1.length + pd2.length) q4, .slice p5 (cl1.length + cl2.length) q5, .int .i64 (max qu1 qu2), .int .i64 (max bu1 bu2), .slice p8 (ru1.length + ru2.length) q8, .slice p9 (gr1.length + gr2.length) q9]) rfl rfl (by kernel_rfl) (by kernel_rfl) (st_rowP (old := #[.slice none 0 0, .slice none 0 0, .slice none 0 0, .int .i64 0, .int .i64 0, .slice none 0 0, .slice none 0 0]) (cells := #[.slice p3 (pr1.length + pr2.length) q3, .slice p4 (pd1.length + pd2.length) q4, .slice p5 (cl1.length + cl2.length) q5, .int .i64 (max qu1 qu2), .int .i64 (max bu1 bu2), .slice p8 (ru1.length + ru2.length) q8, .slice p9 (gr1.length + gr2.length) q9]) rfl (by kernel_rfl) (by kernel_rfl) (by kernel_rfl) rfl hone.out _ hCel) hs12 ?_
            replace hW3 := own_setRow (ds := #[.slice p3 (pr1.length + pr2.length) q3, .slice p4 (pd1.length + pd2.length) q4, .slice p5 (cl1.length + cl2.length) q5, .int .i64 (max qu1 qu2), .int .i64 (max bu1 bu2), .slice p8 (ru1.length + ru2.length) q8, .slice p9 (gr1.length + gr2.length) q9]) hW3 hCel (by decide)
            replace hW4 := own_setRow (ds := #[.slice p3 (pr1.length + pr2.length) q3, .slice p4 (pd1.length + pd2.length) q4, .slice p5 (cl1.length + cl2.length) q5, .int .i64 (max qu1 qu2), .int .i64 (max bu1 bu2), .slice p8 (ru1.length + ru2.length) q8, .slice p9 (gr1.length + gr2.length) q9]) hW4 hCel (by decide)
            replace hW5 := own_setRow (ds := #[.slice p3 (pr1.length + pr2.length) q3, .slice p4 (pd1.length + pd2.length) q4, .slice p5 (cl1.length + cl2.length) q5, .int .i64 (max qu1 qu2), .int .i64 (max bu1 bu2), .slice p8 (ru1.length + ru2.length) q8, .slice p9 (gr1.length + gr2.length) q9]) hW5 hCel (by decide)
            replace hW8 := own_setRow (ds := #[.slice p3 (pr1.length + pr2.length) q3, .slice p4 (pd1.length + pd2.length) q4, .slice p5 (cl1.length + cl2.length) q5, .int .i64 (max qu1 qu2), .int .i64 (max bu1 bu2), .slice p8 (ru1.length + ru2.length) q8, .slice p9 (gr1.length + gr2.length) q9]) hW8 hCel (by decide)
            replace hW9 := own_setRow (ds := #[.slice p3 (pr1.length + pr2.length) q3, .slice p4 (pd1.length + pd2.length) q4, .slice p5 (cl1.length + cl2.length) q5, .int .i64 (max qu1 qu2), .int .i64 (max bu1 bu2), .slice p8 (ru1.length + ru2.length) q8, .slice p9 (gr1.length + gr2.length) q9]) hW9 hCel (by decide)
            replace hCel := hCel.row #[.slice p3 (pr1.length + pr2.length) q3, .slice p4 (pd1.length + pd2.length) q4, .slice p5 (cl1.length + cl2.length) q5, .int .i64 (max qu1 qu2), .int .i64 (max bu1 bu2), .slice p8 (ru1.length + ru2.length) q8, .slice p9 (gr1.length + gr2.length) q9]
            refine wpAnyH_done (by kernel_rfl) ?_ _
            clear hns hQ
            simp only [List.set_cons_zero, List.set_cons_succ]
            obtain ⟨C, U, G, hPR⟩ := HBOTH.out _ _ _ _ _ _ _ hs12 hW3 hW4 hW5 hW8 hW9
            have HC := Lib.hid (HS2.out _ hs12 _ _ _ _ _ _ _ _ hPR)
            have hB3 := hB3.next hs12
            have hSW := hs12
            clear hPR hW3 hW4 hW5 hW8 hW9 hge hone hs0 hs1 hs2 hs3 hs4 hs5 hs6 hs7 hs8 hs9 hs10 hs11 hs12
            generalize (wx60.setRow (wB.drew.heap.size) #[.slice p3 (pr1.length + pr2.length) q3, .slice p4 (pd1.length + pd2.length) q4, .slice p5 (cl1.length + cl2.length) q5, .int .i64 (max qu1 qu2), .int .i64 (max bu1 bu2), .slice p8 (ru1.length + ru2.length) q8, .slice p9 (gr1.length + gr2.length) q9]) = wq at *
            generalize wB.drew.heap.size = gN at *
            have k0 : wq.cell? ⟨g3, 0, none⟩ = some (.slice z3 pr3.length k3) := hB3.cell 0
            have k1 : wq.cell? ⟨g3, 1, none⟩ = some (.slice z4 pd3.length k4) := hB3.cell 1
            have k2 : wq.cell? ⟨g3, 2, none⟩ = some (.slice z5 cl3.length k5) := hB3.cell 2
            have k3 : wq.cell? ⟨g3, 3, none⟩ = some (.int .i64 qu3) := hB3.cell 3
            have k4 : wq.cell? ⟨g3, 4, none⟩ = some (.int .i64 bu3) := hB3.cell 4
            have k5 : wq.cell? ⟨g3, 5, none⟩ = some (.slice z8 ru3.length k8) := hB3.cell 5
            have k6 : wq.cell? ⟨g3, 6, none⟩ = some (.slice z9 gr3.length k9) := hB3.cell 6
            have l0 : wq.cell? ⟨gN, 0, none⟩ = some (.slice p3 (pr1.length + pr2.length) q3) := hCel.cell 0
            have l1 : wq.cell? ⟨gN, 1, none⟩ = some (.slice p4 (pd1.length + pd2.length) q4) := hCel.cell 1
            have l2 : wq.cell? ⟨gN, 2, none⟩ = some (.slice p5 (cl1.length + cl2.length) q5) := hCel.cell 2
            have l3 : wq.cell? ⟨gN, 3, none⟩ = some (.int .i64 (max qu1 qu2)) := hCel.cell 3
            have l4 : wq.cell? ⟨gN, 4, none⟩ = some (.int .i64 (max bu1 bu2)) := hCel.cell 4
            have l5 : wq.cell? ⟨gN, 5, none⟩ = some (.slice p8 (ru1.length + ru2.length) q8) := hCel.cell 5
            have l6 : wq.cell? ⟨gN, 6, none⟩ = some (.slice p9 (gr1.length + gr2.length) q9) := hCel.cell 6
            clear hB3 hCel
            go_wp2_with fail
            refine HC.out.mono ?_
            rintro e wr ⟨rfl, hb⟩
            have hSR := hSW.trans hb
            clear k0 l0 k1 l1 k2 l2 k3 l3 k4 l4 k5 l5 k6 l6
            go_wp2_with fail
            go_meet
            case rel => exact hSR
        · subst e3
          go_wp2_with fail
          go_meet
          case rel => exact Since.refl _
      case rest =>
      have hSc := hSB.trans hcut
      clear HSP HBOTH hA1 hA2 hB3 hq HLS HLT hcut HX3 HRD3 HOX3 HOY3 I3 HX4 HRD4 HOX4 HOY4 I4 HX5 HRD5 HOX5 HOY5 I5 HX8 HRD8 HOX8 HOY8 I8 HX9 HRD9 HOX9 HOY9 I9
      go_wp2_with fail
      refine (HA1.out _ hSc).mono ?_
      rintro e wE ⟨rfl, hb⟩
      have hSE := hSc.trans hb
      clear hb HA1
      obtain ⟨wF, hwx⟩ : ∃ W, Hid (W = wE.alloc (.cells #[.string ⟨a_s.toArray⟩, .string ⟨a_p.toArray⟩, .int .i64 a_n, .bool a_v0, .string ⟨a_l0.toArray⟩, .bool a_v1, .string ⟨a_l1.toArray⟩, .bool a_v2, .string ⟨a_l2.toArray⟩, .bool a_v3, .string ⟨a_l3.toArray⟩] 44)) := ⟨_, rfl⟩
      have hb : Since wE wF := by rw [hwx.out]; exact (Since.refl wE).alloc _
      have hB4 : Cel wF wE.heap.size #[.string ⟨a_s.toArray⟩, .string ⟨a_p.toArray⟩, .int .i64 a_n, .bool a_v0, .string ⟨a_l0.toArray⟩, .bool a_v1, .string ⟨a_l1.toArray⟩, .bool a_v2, .string ⟨a_l2.toArray⟩, .bool a_v3, .string ⟨a_l3.toArray⟩] 44 := by rw [hwx.out]; exact heap_alloc_new wE _
      have hSF := hSE.trans hb
      clear hb
      go_upto_region 16 with (fail)
      rw [← hwx.out]
      obtain ⟨g4, hgx⟩ : ∃ g, Hid (g = wE.heap.size) := ⟨_, rfl⟩
      simp only [← hgx.out]
      rw [← hgx.out] at hB4
      clear hgx hwx
      go_wp2_with fail
      refine (HG1.out _ hSF).mono ?_
      rintro e wG ⟨rfl, hb⟩
      have hSG := hSF.trans hb
      replace hB4 := hB4.next hb
      clear hb HG1
      obtain ⟨wH, hwx⟩ : ∃ W, Hid (W = wG.alloc (.cells #[.string ⟨b_s.toArray⟩, .string ⟨b_p.toArray⟩, .int .i64 b_n, .bool b_v0, .string ⟨b_l0.toArray⟩, .bool b_v1, .string ⟨b_l1.toArray⟩, .bool b_v2, .string ⟨b_l2.toArray⟩, .bool b_v3, .string ⟨b_l3.toArray⟩] 44)) := ⟨_, rfl⟩
      have hb : Since wG wH := by rw [hwx.out]; exact (Since.refl wG).alloc _
      have hB5 : Cel wH wG.heap.size #[.string ⟨b_s.toArray⟩, .string ⟨b_p.toArray⟩, .int .i64 b_n, .bool b_v0, .string ⟨b_l0.toArray⟩, .bool b_v1, .string ⟨b_l1.toArray⟩, .bool b_v2, .string ⟨b_l2.toArray⟩, .bool b_v3, .string ⟨b_l3.toArray⟩] 44 := by rw [hwx.out]; exact heap_alloc_new wG _
      have hSH := hSG.trans hb
      replace hB4 := hB4.next hb
      clear hb
      go_upto_region 17 with (fail)
      rw [← hwx.out]
      obtain ⟨g5, hgx⟩ : ∃ g, Hid (g = wG.heap.size) := ⟨_, rfl⟩
      simp only [← hgx.out]
      rw [← hgx.out] at hB5
      clear hgx hwx
      go_wp2_with fail
      refine (HP4.out _ hSH).mono ?_
      rintro e wI ⟨c3, c4, c5, c6, c7, c8, c9, C4, U4, G4, rfl, hO4, hb⟩
      have hSI := hSH.trans hb
      replace hB4 := hB4.next hb
      replace hB5 := hB5.next hb
      clear hb HP4
      obtain ⟨o3, k3, o4, k4, o5, k5, o8, k8, o9, k9, v3, v4, v5, v6, v7, v8, v9⟩ := pol_cells2 hO4
      subst v3 v4 v5 v6 v7 v8 v9
      obtain ⟨wJ, hwx⟩ : ∃ W, Hid (W = wI.alloc (.cells #[.slice o3 P4.pr.length k3, .slice o4 P4.pd.length k4, .slice o5 P4.cl.length k5, .int .i64 P4.qu, .int .i64 P4.bu, .slice o8 P4.ru.length k8, .slice o9 P4.gr.length k9] 29)) := ⟨_, rfl⟩
      have hb : Since wI wJ := by rw [hwx.out]; exact (Since.refl wI).alloc _
      have hB6 : Cel wJ wI.heap.size #[.slice o3 P4.pr.length k3, .slice o4 P4.pd.length k4, .slice o5 P4.cl.length k5, .int .i64 P4.qu, .int .i64 P4.bu, .slice o8 P4.ru.length k8, .slice o9 P4.gr.length k9] 29 := by rw [hwx.out]; exact heap_alloc_new wI _
      have hSJ := hSI.trans hb
      replace hB4 := hB4.next hb
      replace hB5 := hB5.next hb
      replace hO4 := hO4.next hb
      clear hb
      go_upto_region 18 with (fail)
      rw [← hwx.out]
      obtain ⟨g6, hgx⟩ : ∃ g, Hid (g = wI.heap.size) := ⟨_, rfl⟩
      simp only [← hgx.out]
      rw [← hgx.out] at hB6
      clear hgx hwx
      by_cases hh : h = 0
      · obtain ⟨e1, e2, e3, e4, e5, e6⟩ := HON.out.2 hh
        subst hh; subst e1; subst e3; subst e4
        simp only [Prod.mk.injEq] at e2
        obtain ⟨j0, j1, j2, ⟨j3, j4⟩, ⟨j5, j6⟩, ⟨j7, j8⟩, j9, j10⟩ := e2
        replace j0 := j0.symm; replace j1 := j1.symm; replace j2 := j2.symm; replace j3 := j3.symm; replace j4 := j4.symm; replace j5 := j5.symm; replace j6 := j6.symm; replace j7 := j7.symm; replace j8 := j8.symm; replace j9 := j9.symm; replace j10 := j10.symm
        subst j0; subst j1; subst j2; subst j3; subst j4; subst j5; subst j6; subst j7; subst j8; subst j9; subst j10
        have HCK : Hid (∀ W, Calls Tryz.prog 15 #[.agg #[.string ⟨a_s.toArray⟩, .string ⟨a_p.toArray⟩, .int .i64 a_n, .bool a_v0, .string ⟨a_l0.toArray⟩, .bool a_v1, .string ⟨a_l1.toArray⟩, .bool a_v2, .string ⟨a_l2.toArray⟩, .bool a_v3, .string ⟨a_l3.toArray⟩]] W fun e w' => e = .returned (.int .i64 0) ∧ Since W w') := fun W => by
          have k := rcheck_any a_s a_p a_n a_v0 a_v1 a_v2 a_v3 a_l0 a_l1 a_l2 a_l3 W (valid_fits e5)
          rw [e5] at k
          exact k
        obtain ⟨rb, ro, rc, ua, uc, e7, hrc, hA7⟩ := one_rule hO4
        obtain ⟨j0, -, j1⟩ := Value.slice.inj e7
        subst j0; subst j1
        replace hA7 : At wJ rb (ro + 0 * 12) #[.string ⟨a_s.toArray⟩, .string ⟨a_p.toArray⟩, .int .i64 a_n, .bool a_v0, .string ⟨a_l0.toArray⟩, .bool a_v1, .string ⟨a_l1.toArray⟩, .bool a_v2, .string ⟨a_l2.toArray⟩, .bool a_v3, .string ⟨a_l3.toArray⟩, .slice ua 0 uc] := hA7
        have hA7a : At wJ rb (ro + 0 * 12) #[.string ⟨a_s.toArray⟩, .string ⟨a_p.toArray⟩, .int .i64 a_n, .bool a_v0, .string ⟨a_l0.toArray⟩, .bool a_v1, .string ⟨a_l1.toArray⟩, .bool a_v2, .string ⟨a_l2.toArray⟩, .bool a_v3, .string ⟨a_l3.toArray⟩] := at_subP hA7 0 11
        have hA7c : At wJ rb (ro + 0 * 12 + 11) #[.slice ua 0 uc] := at_subP hA7 11 1
        have hA4 : At wJ g4 0 #[.string ⟨a_s.toArray⟩, .string ⟨a_p.toArray⟩, .int .i64 a_n, .bool a_v0, .string ⟨a_l0.toArray⟩, .bool a_v1, .string ⟨a_l1.toArray⟩, .bool a_v2, .string ⟨a_l2.toArray⟩, .bool a_v3, .string ⟨a_l3.toArray⟩] := hB4.at
        have hA5 : At wJ g5 0 #[.string ⟨a_s.toArray⟩, .string ⟨a_p.toArray⟩, .int .i64 a_n, .bool a_v0, .string ⟨a_l0.toArray⟩, .bool a_v1, .string ⟨a_l1.toArray⟩, .bool a_v2, .string ⟨a_l2.toArray⟩, .bool a_v3, .string ⟨a_l3.toArray⟩] := hB5.at
        have hA6 : At wJ g6 5 #[.slice (some ⟨rb, ro, none⟩) 1 k8] := At.one (hB6.cell 5)
        clear e5 e6 e7 hB4 hB5 hB6 hO4 HON hrc hA7
        go_upto_region 20 with (fail)
        have hs0 : Since wJ wJ.drew := (Since.refl _).drew
        refine hx_begin (S := fun W => Since wJ W) (by kernel_rfl) hs0 (by kernel_rfl) (fun _ _ _ _ _ h => h) (fun hns hQ => ?_)
        refine hx_take (i := 0) (oi := _) (v := .int .i64 0) rfl rfl hns (by kernel_rfl) (by kernel_rfl) hQ (by kernel_rfl) (fun _ _ => by kernel_rfl) hs0 ?_
        refine hx_take (i := 1) (oi := _) (v := .bool true) rfl rfl hns (by kernel_rfl) (by kernel_rfl) hQ (by kernel_rfl) (fun W _ => eqs_intE (s := 0) rfl (by kernel_rfl) (by kernel_rfl) W) hs0 ?_
        refine hx_take (i := 2) (oi := _) (v := .bool true) rfl rfl hns (by kernel_rfl) (by kernel_rfl) hQ (by kernel_rfl) (fun _ _ => by kernel_rfl) hs0 ?_
        refine hx_take (i := 3) (oi := _) (v := .agg #[.string ⟨a_s.toArray⟩, .string ⟨a_p.toArray⟩, .int .i64 a_n, .bool a_v0, .string ⟨a_l0.toArray⟩, .bool a_v1, .string ⟨a_l1.toArray⟩, .bool a_v2, .string ⟨a_l2.toArray⟩, .bool a_v3, .string ⟨a_l3.toArray⟩]) rfl rfl hns (by kernel_rfl) (by kernel_rfl) hQ (by kernel_rfl) (fun W hW => ld_at rfl (by kernel_rfl) (by kernel_rfl) (by kernel_rfl) W (hA4.next hW)) hs0 ?_
        refine hx_take (i := 4) (oi := _) (v := .agg #[.string ⟨a_s.toArray⟩, .string ⟨a_p.toArray⟩, .int .i64 a_n, .bool a_v0, .string ⟨a_l0.toArray⟩, .bool a_v1, .string ⟨a_l1.toArray⟩, .bool a_v2, .string ⟨a_l2.toArray⟩, .bool a_v3, .string ⟨a_l3.toArray⟩]) rfl rfl hns (by kernel_rfl) (by kernel_rfl) hQ (by kernel_rfl) (fun W hW => ld_at rfl (by kernel_rfl) (by kernel_rfl) (by kernel_rfl) W (hA5.next hW)) hs0 ?_
        refine hx_take (i := 5) (oi := _) (v := .bool true) rfl rfl hns (by kernel_rfl) (by kernel_rfl) hQ (by kernel_rfl) (fun W _ => eqg_sameAP a_s a_p a_n a_v0 a_v1 a_v2 a_v3 a_l0 a_l1 a_l2 a_l3 rfl (by kernel_rfl) (by kernel_rfl) W) hs0 ?_
        refine hx_take (i := 6) (oi := _) (v := .bool true) rfl rfl hns (by kernel_rfl) (by kernel_rfl) hQ (by kernel_rfl) (fun _ _ => by kernel_rfl) hs0 ?_
        refine hx_take (i := 7) (oi := _) (v := .bool true) rfl rfl hns (by kernel_rfl) (by kernel_rfl) hQ (by kernel_rfl) (fun _ _ => by kernel_rfl) hs0 ?_
        refine hx_take (i := 8) (oi := _) (v := .int .i64 0) rfl rfl hns (by kernel_rfl) (by kernel_rfl) hQ (by kernel_rfl) (fun _ _ => by kernel_rfl) hs0 ?_
        refine hx_take (i := 9) (oi := _) (v := .bool true) rfl rfl hns (by kernel_rfl) (by kernel_rfl) hQ (by kernel_rfl) (fun W _ => eqs_intE (s := 0) rfl (by kernel_rfl) (by kernel_rfl) W) hs0 ?_
        refine hx_take (i := 10) (oi := _) (v := .bool true) rfl rfl hns (by kernel_rfl) (by kernel_rfl) hQ (by kernel_rfl) (fun _ _ => by kernel_rfl) hs0 ?_
        refine hx_take (i := 11) (oi := _) (v := .bool true) rfl rfl hns (by kernel_rfl) (by kernel_rfl) hQ (by kernel_rfl) (fun _ _ => by kernel_rfl) hs0 ?_
        refine hx_take (i := 12) (oi := _) (v := .pointer (some ⟨g6, 5, none⟩)) rfl rfl hns (by kernel_rfl) (by kernel_rfl) hQ (by kernel_rfl) (fun _ _ => by kernel_rfl) hs0 ?_
        refine hx_take (i := 13) (oi := _) (v := .slice (some ⟨rb, ro, none⟩) 1 k8) rfl rfl hns (by kernel_rfl) (by kernel_rfl) hQ (by kernel_rfl) (fun W hW => ld_one rfl (by kernel_rfl) (by kernel_rfl) W (hA6.next hW 0 _ rfl)) hs0 ?_
        refine hx_take (i := 14) (oi := _) (v := .int .i64 1) rfl rfl hns (by kernel_rfl) (by kernel_rfl) hQ (by kernel_rfl) (fun _ _ => by kernel_rfl) hs0 ?_
        refine hx_take (i := 15) (oi := _) (v := .bool true) rfl rfl hns (by kernel_rfl) (by kernel_rfl) hQ (by kernel_rfl) (fun W _ => eqs_int (s := 1) rfl (by kernel_rfl) (by kernel_rfl) W) hs0 ?_
        refine hx_take (i := 16) (oi := _) (v := .bool true) rfl rfl hns (by kernel_rfl) (by kernel_rfl) hQ (by kernel_rfl) (fun _ _ => by kernel_rfl) hs0 ?_
        refine hx_take (i := 17) (oi := _) (v := .bool true) rfl rfl hns (by kernel_rfl) (by kernel_rfl) hQ (by kernel_rfl) (fun _ _ => by kernel_rfl) hs0 ?_
        refine hx_take (i := 18) (oi := _) (v := .pointer (some ⟨g6, 5, none⟩)) rfl rfl hns (by kernel_rfl) (by kernel_rfl) hQ (by kernel_rfl) (fun _ _ => by kernel_rfl) hs0 ?_
        refine hx_take (i := 19) (oi := _) (v := .slice (some ⟨rb, ro, none⟩) 1 k8) rfl rfl hns (by kernel_rfl) (by kernel_rfl) hQ (by kernel_rfl) (fun W hW => ld_one rfl (by kernel_rfl) (by kernel_rfl) W (hA6.next hW 0 _ rfl)) hs0 ?_
        refine hx_take (i := 20) (oi := _) (v := .pointer (some ⟨rb, ro + 0 * 12, none⟩)) rfl rfl hns (by kernel_rfl) (by kernel_rfl) hQ (by kernel_rfl) (fun W _ => ix_sl (n := 1) (c := k8) (K := 12) rfl (by kernel_rfl) (by kernel_rfl) (by kernel_rfl) rfl (by omega) W) hs0 ?_
        refine hx_take (i := 21) (oi := _) (v := .pointer (some ⟨rb, ro + 0 * 12, none⟩)) rfl rfl hns (by kernel_rfl) (by kernel_rfl) hQ (by kernel_rfl) (fun _ _ => by kernel_rfl) hs0 ?_
        refine hx_take (i := 22) (oi := _) (v := .agg #[.string ⟨a_s.toArray⟩, .string ⟨a_p.toArray⟩, .int .i64 a_n, .bool a_v0, .string ⟨a_l0.toArray⟩, .bool a_v1, .string ⟨a_l1.toArray⟩, .bool a_v2, .string ⟨a_l2.toArray⟩, .bool a_v3, .string ⟨a_l3.toArray⟩]) rfl rfl hns (by kernel_rfl) (by kernel_rfl) hQ (by kernel_rfl) (fun W hW => ld_at rfl (by kernel_rfl) (by kernel_rfl) (by kernel_rfl) W (hA7a.next hW)) hs0 ?_
        refine hx_take (i := 23) (oi := _) (v := .agg #[.string ⟨a_s.toArray⟩, .string ⟨a_p.toArray⟩, .int .i64 a_n, .bool a_v0, .string ⟨a_l0.toArray⟩, .bool a_v1, .string ⟨a_l1.toArray⟩, .bool a_v2, .string ⟨a_l2.toArray⟩, .bool a_v3, .string ⟨a_l3.toArray⟩]) rfl rfl hns (by kernel_rfl) (by kernel_rfl) hQ (by kernel_rfl) (fun W hW => ld_at rfl (by kernel_rfl) (by kernel_rfl) (by kernel_rfl) W (hA4.next hW)) hs0 ?_
        refine hx_take (i := 24) (oi := _) (v := .bool true) rfl rfl hns (by kernel_rfl) (by kernel_rfl) hQ (by kernel_rfl) (fun W _ => eqg_sameAP a_s a_p a_n a_v0 a_v1 a_v2 a_v3 a_l0 a_l1 a_l2 a_l3 rfl (by kernel_rfl) (by kernel_rfl) W) hs0 ?_
        refine hx_take (i := 25) (oi := _) (v := .bool true) rfl rfl hns (by kernel_rfl) (by kernel_rfl) hQ (by kernel_rfl) (fun _ _ => by kernel_rfl) hs0 ?_
        refine hx_take (i := 26) (oi := _) (v := .bool true) rfl rfl hns (by kernel_rfl) (by kernel_rfl) hQ (by kernel_rfl) (fun _ _ => by kernel_rfl) hs0 ?_
        refine hx_take (i := 27) (oi := _) (v := .pointer (some ⟨g6, 5, none⟩)) rfl rfl hns (by kernel_rfl) (by kernel_rfl) hQ (by kernel_rfl) (fun _ _ => by kernel_rfl) hs0 ?_
        refine hx_take (i := 28) (oi := _) (v := .slice (some ⟨rb, ro, none⟩) 1 k8) rfl rfl hns (by kernel_rfl) (by kernel_rfl) hQ (by kernel_rfl) (fun W hW => ld_one rfl (by kernel_rfl) (by kernel_rfl) W (hA6.next hW 0 _ rfl)) hs0 ?_
        refine hx_take (i := 29) (oi := _) (v := .pointer (some ⟨rb, ro + 0 * 12, none⟩)) rfl rfl hns (by kernel_rfl) (by kernel_rfl) hQ (by kernel_rfl) (fun W _ => ix_sl (n := 1) (c := k8) (K := 12) rfl (by kernel_rfl) (by kernel_rfl) (by kernel_rfl) rfl (by omega) W) hs0 ?_
        refine hx_take (i := 30) (oi := _) (v := .pointer (some ⟨rb, ro + 0 * 12 + 11, none⟩)) rfl rfl hns (by kernel_rfl) (by kernel_rfl) hQ (by kernel_rfl) (fun _ _ => by kernel_rfl) hs0 ?_
        refine hx_take (i := 31) (oi := _) (v := .slice ua 0 uc) rfl rfl hns (by kernel_rfl) (by kernel_rfl) hQ (by kernel_rfl) (fun W hW => ld_one rfl (by kernel_rfl) (by kernel_rfl) W (hA7c.next hW 0 _ rfl)) hs0 ?_
        refine hx_take (i := 32) (oi := _) (v := .int .i64 0) rfl rfl hns (by kernel_rfl) (by kernel_rfl) hQ (by kernel_rfl) (fun _ _ => by kernel_rfl) hs0 ?_
        refine hx_take (i := 33) (oi := _) (v := .bool true) rfl rfl hns (by kernel_rfl) (by kernel_rfl) hQ (by kernel_rfl) (fun W _ => eqs_int (s := 0) rfl (by kernel_rfl) (by kernel_rfl) W) hs0 ?_
        refine hx_take (i := 34) (oi := _) (v := .bool true) rfl rfl hns (by kernel_rfl) (by kernel_rfl) hQ (by kernel_rfl) (fun _ _ => by kernel_rfl) hs0 ?_
        refine hx_take (i := 35) (oi := _) (v := .bool true) rfl rfl hns (by kernel_rfl) (by kernel_rfl) hQ (by kernel_rfl) (fun _ _ => by kernel_rfl) hs0 ?_
        refine hx_take (i := 36) (oi := _) (v := .agg #[.string ⟨a_s.toArray⟩, .string ⟨a_p.toArray⟩, .int .i64 a_n, .bool a_v0, .string ⟨a_l0.toArray⟩, .bool a_v1, .string ⟨a_l1.toArray⟩, .bool a_v2, .string ⟨a_l2.toArray⟩, .bool a_v3, .string ⟨a_l3.toArray⟩]) rfl rfl hns (by kernel_rfl) (by kernel_rfl) hQ (by kernel_rfl) (fun W hW => ld_at rfl (by kernel_rfl) (by kernel_rfl) (by kernel_rfl) W (hA4.next hW)) hs0 ?_
        refine hx_call (i := 37) (oi := _) 15 #[.agg #[.string ⟨a_s.toArray⟩, .string ⟨a_p.toArray⟩, .int .i64 a_n, .bool a_v0, .string ⟨a_l0.toArray⟩, .bool a_v1, .string ⟨a_l1.toArray⟩, .bool a_v2, .string ⟨a_l2.toArray⟩, .bool a_v3, .string ⟨a_l3.toArray⟩]] rfl rfl (by kernel_rfl) (by kernel_rfl) (by kernel_rfl) (HCK.out _) ?_
        rintro e wx51 ⟨rfl, hb⟩
        have hs1 : Since wJ wx51 := hs0.trans hb
        clear hb
        refine ⟨_, rfl, hs1, ?_⟩
        refine hx_take (i := 38) (oi := _) (v := .bool true) rfl rfl hns (by kernel_rfl) (by kernel_rfl) hQ (by kernel_rfl) (fun W _ => eqs_intE (s := 0) rfl (by kernel_rfl) (by kernel_rfl) W) hs1 ?_
        refine hx_take (i := 39) (oi := _) (v := .bool true) rfl rfl hns (by kernel_rfl) (by kernel_rfl) hQ (by kernel_rfl) (fun _ _ => by kernel_rfl) hs1 ?_
        refine hx_take (i := 40) (oi := _) (v := .bool true) rfl rfl hns (by kernel_rfl) (by kernel_rfl) hQ (by kernel_rfl) (fun _ _ => by kernel_rfl) hs1 ?_
        refine wpAnyH_done (by kernel_rfl) ?_ _
        clear hns hQ
        simp only [List.set_cons_zero, List.set_cons_succ]
        go_wp2_with fail
        exact hgood.out _ (hSJ.trans hs1)
      · have h2n := HON.out.1 hh
        have hK1 : K (.returned (.bool (!(h2 == 0)))) wJ := by rw [show (h2 == 0) = false by simpa using h2n]; exact hgood.out _ hSJ
        clear hB4 hB5 hB6 hO4 HON
        go_wp2_with fail
        first | exact hgood.out _ hSJ | exact hK1
    · clear hB1 hB2 hB3 hO1 hO2 hO3 HPQ HLS HLT
      go_wp2_with fail
      refine (HA1.out _ hSB).mono ?_
      rintro e wE ⟨rfl, hb⟩
      have hSE := hSB.trans hb
      clear hb HA1
      obtain ⟨wF, hwx⟩ : ∃ W, Hid (W = wE.alloc (.cells #[.string ⟨a_s.toArray⟩, .string ⟨a_p.toArray⟩, .int .i64 a_n, .bool a_v0, .string ⟨a_l0.toArray⟩, .bool a_v1, .string ⟨a_l1.toArray⟩, .bool a_v2, .string ⟨a_l2.toArray⟩, .bool a_v3, .string ⟨a_l3.toArray⟩] 44)) := ⟨_, rfl⟩
      have hb : Since wE wF := by rw [hwx.out]; exact (Since.refl wE).alloc _
      have hB4 : Cel wF wE.heap.size #[.string ⟨a_s.toArray⟩, .string ⟨a_p.toArray⟩, .int .i64 a_n, .bool a_v0, .string ⟨a_l0.toArray⟩, .bool a_v1, .string ⟨a_l1.toArray⟩, .bool a_v2, .string ⟨a_l2.toArray⟩, .bool a_v3, .string ⟨a_l3.toArray⟩] 44 := by rw [hwx.out]; exact heap_alloc_new wE _
      have hSF := hSE.trans hb
      clear hb
      go_upto_region 16 with (fail)
      rw [← hwx.out]
      obtain ⟨g4, hgx⟩ : ∃ g, Hid (g = wE.heap.size) := ⟨_, rfl⟩
      simp only [← hgx.out]
      rw [← hgx.out] at hB4
      clear hgx hwx
      go_wp2_with fail
      refine (HG1.out _ hSF).mono ?_
      rintro e wG ⟨rfl, hb⟩
      have hSG := hSF.trans hb
      replace hB4 := hB4.next hb
      clear hb HG1
      obtain ⟨wH, hwx⟩ : ∃ W, Hid (W = wG.alloc (.cells #[.string ⟨b_s.toArray⟩, .string ⟨b_p.toArray⟩, .int .i64 b_n, .bool b_v0, .string ⟨b_l0.toArray⟩, .bool b_v1, .string ⟨b_l1.toArray⟩, .bool b_v2, .string ⟨b_l2.toArray⟩, .bool b_v3, .string ⟨b_l3.toArray⟩] 44)) := ⟨_, rfl⟩
      have hb : Since wG wH := by rw [hwx.out]; exact (Since.refl wG).alloc _
      have hB5 : Cel wH wG.heap.size #[.string ⟨b_s.toArray⟩, .string ⟨b_p.toArray⟩, .int .i64 b_n, .bool b_v0, .string ⟨b_l0.toArray⟩, .bool b_v1, .string ⟨b_l1.toArray⟩, .bool b_v2, .string ⟨b_l2.toArray⟩, .bool b_v3, .string ⟨b_l3.toArray⟩] 44 := by rw [hwx.out]; exact heap_alloc_new wG _
      have hSH := hSG.trans hb
      replace hB4 := hB4.next hb
      clear hb
      go_upto_region 17 with (fail)
      rw [← hwx.out]
      obtain ⟨g5, hgx⟩ : ∃ g, Hid (g = wG.heap.size) := ⟨_, rfl⟩
      simp only [← hgx.out]
      rw [← hgx.out] at hB5
      clear hgx hwx
      go_wp2_with fail
      refine (HP4.out _ hSH).mono ?_
      rintro e wI ⟨c3, c4, c5, c6, c7, c8, c9, C4, U4, G4, rfl, hO4, hb⟩
      have hSI := hSH.trans hb
      replace hB4 := hB4.next hb
      replace hB5 := hB5.next hb
      clear hb HP4
      obtain ⟨o3, k3, o4, k4, o5, k5, o8, k8, o9, k9, v3, v4, v5, v6, v7, v8, v9⟩ := pol_cells2 hO4
      subst v3 v4 v5 v6 v7 v8 v9
      obtain ⟨wJ, hwx⟩ : ∃ W, Hid (W = wI.alloc (.cells #[.slice o3 P4.pr.length k3, .slice o4 P4.pd.length k4, .slice o5 P4.cl.length k5, .int .i64 P4.qu, .int .i64 P4.bu, .slice o8 P4.ru.length k8, .slice o9 P4.gr.length k9] 29)) := ⟨_, rfl⟩
      have hb : Since wI wJ := by rw [hwx.out]; exact (Since.refl wI).alloc _
      have hB6 : Cel wJ wI.heap.size #[.slice o3 P4.pr.length k3, .slice o4 P4.pd.length k4, .slice o5 P4.cl.length k5, .int .i64 P4.qu, .int .i64 P4.bu, .slice o8 P4.ru.length k8, .slice o9 P4.gr.length k9] 29 := by rw [hwx.out]; exact heap_alloc_new wI _
      have hSJ := hSI.trans hb
      replace hB4 := hB4.next hb
      replace hB5 := hB5.next hb
      replace hO4 := hO4.next hb
      clear hb
      go_upto_region 18 with (fail)
      rw [← hwx.out]
      obtain ⟨g6, hgx⟩ : ∃ g, Hid (g = wI.heap.size) := ⟨_, rfl⟩
      simp only [← hgx.out]
      rw [← hgx.out] at hB6
      clear hgx hwx
      by_cases hh : h = 0
      · obtain ⟨e1, e2, e3, e4, e5, e6⟩ := HON.out.2 hh
        subst hh; subst e1; subst e3; subst e4
        simp only [Prod.mk.injEq] at e2
        obtain ⟨j0, j1, j2, ⟨j3, j4⟩, ⟨j5, j6⟩, ⟨j7, j8⟩, j9, j10⟩ := e2
        replace j0 := j0.symm; replace j1 := j1.symm; replace j2 := j2.symm; replace j3 := j3.symm; replace j4 := j4.symm; replace j5 := j5.symm; replace j6 := j6.symm; replace j7 := j7.symm; replace j8 := j8.symm; replace j9 := j9.symm; replace j10 := j10.symm
        subst j0; subst j1; subst j2; subst j3; subst j4; subst j5; subst j6; subst j7; subst j8; subst j9; subst j10
        have HCK : Hid (∀ W, Calls Tryz.prog 15 #[.agg #[.string ⟨a_s.toArray⟩, .string ⟨a_p.toArray⟩, .int .i64 a_n, .bool a_v0, .string ⟨a_l0.toArray⟩, .bool a_v1, .string ⟨a_l1.toArray⟩, .bool a_v2, .string ⟨a_l2.toArray⟩, .bool a_v3, .string ⟨a_l3.toArray⟩]] W fun e w' => e = .returned (.int .i64 0) ∧ Since W w') := fun W => by
          have k := rcheck_any a_s a_p a_n a_v0 a_v1 a_v2 a_v3 a_l0 a_l1 a_l2 a_l3 W (valid_fits e5)
          rw [e5] at k
          exact k
        obtain ⟨rb, ro, rc, ua, uc, e7, hrc, hA7⟩ := one_rule hO4
        obtain ⟨j0, -, j1⟩ := Value.slice.inj e7
        subst j0; subst j1
        replace hA7 : At wJ rb (ro + 0 * 12) #[.string ⟨a_s.toArray⟩, .string ⟨a_p.toArray⟩, .int .i64 a_n, .bool a_v0, .string ⟨a_l0.toArray⟩, .bool a_v1, .string ⟨a_l1.toArray⟩, .bool a_v2, .string ⟨a_l2.toArray⟩, .bool a_v3, .string ⟨a_l3.toArray⟩, .slice ua 0 uc] := hA7
        have hA7a : At wJ rb (ro + 0 * 12) #[.string ⟨a_s.toArray⟩, .string ⟨a_p.toArray⟩, .int .i64 a_n, .bool a_v0, .string ⟨a_l0.toArray⟩, .bool a_v1, .string ⟨a_l1.toArray⟩, .bool a_v2, .string ⟨a_l2.toArray⟩, .bool a_v3, .string ⟨a_l3.toArray⟩] := at_subP hA7 0 11
        have hA7c : At wJ rb (ro + 0 * 12 + 11) #[.slice ua 0 uc] := at_subP hA7 11 1
        have hA4 : At wJ g4 0 #[.string ⟨a_s.toArray⟩, .string ⟨a_p.toArray⟩, .int .i64 a_n, .bool a_v0, .string ⟨a_l0.toArray⟩, .bool a_v1, .string ⟨a_l1.toArray⟩, .bool a_v2, .string ⟨a_l2.toArray⟩, .bool a_v3, .string ⟨a_l3.toArray⟩] := hB4.at
        have hA5 : At wJ g5 0 #[.string ⟨a_s.toArray⟩, .string ⟨a_p.toArray⟩, .int .i64 a_n, .bool a_v0, .string ⟨a_l0.toArray⟩, .bool a_v1, .string ⟨a_l1.toArray⟩, .bool a_v2, .string ⟨a_l2.toArray⟩, .bool a_v3, .string ⟨a_l3.toArray⟩] := hB5.at
        have hA6 : At wJ g6 5 #[.slice (some ⟨rb, ro, none⟩) 1 k8] := At.one (hB6.cell 5)
        clear e5 e6 e7 hB4 hB5 hB6 hO4 HON hrc hA7
        go_upto_region 20 with (fail)
        have hs0 : Since wJ wJ.drew := (Since.refl _).drew
        refine hx_begin (S := fun W => Since wJ W) (by kernel_rfl) hs0 (by kernel_rfl) (fun _ _ _ _ _ h => h) (fun hns hQ => ?_)
        refine hx_take (i := 0) (oi := _) (v := .int .i64 0) rfl rfl hns (by kernel_rfl) (by kernel_rfl) hQ (by kernel_rfl) (fun _ _ => by kernel_rfl) hs0 ?_
        refine hx_take (i := 1) (oi := _) (v := .bool true) rfl rfl hns (by kernel_rfl) (by kernel_rfl) hQ (by kernel_rfl) (fun W _ => eqs_intE (s := 0) rfl (by kernel_rfl) (by kernel_rfl) W) hs0 ?_
        refine hx_take (i := 2) (oi := _) (v := .bool true) rfl rfl hns (by kernel_rfl) (by kernel_rfl) hQ (by kernel_rfl) (fun _ _ => by kernel_rfl) hs0 ?_
        refine hx_take (i := 3) (oi := _) (v := .agg #[.string ⟨a_s.toArray⟩, .string ⟨a_p.toArray⟩, .int .i64 a_n, .bool a_v0, .string ⟨a_l0.toArray⟩, .bool a_v1, .string ⟨a_l1.toArray⟩, .bool a_v2, .string ⟨a_l2.toArray⟩, .bool a_v3, .string ⟨a_l3.toArray⟩]) rfl rfl hns (by kernel_rfl) (by kernel_rfl) hQ (by kernel_rfl) (fun W hW => ld_at rfl (by kernel_rfl) (by kernel_rfl) (by kernel_rfl) W (hA4.next hW)) hs0 ?_
        refine hx_take (i := 4) (oi := _) (v := .agg #[.string ⟨a_s.toArray⟩, .string ⟨a_p.toArray⟩, .int .i64 a_n, .bool a_v0, .string ⟨a_l0.toArray⟩, .bool a_v1, .string ⟨a_l1.toArray⟩, .bool a_v2, .string ⟨a_l2.toArray⟩, .bool a_v3, .string ⟨a_l3.toArray⟩]) rfl rfl hns (by kernel_rfl) (by kernel_rfl) hQ (by kernel_rfl) (fun W hW => ld_at rfl (by kernel_rfl) (by kernel_rfl) (by kernel_rfl) W (hA5.next hW)) hs0 ?_
        refine hx_take (i := 5) (oi := _) (v := .bool true) rfl rfl hns (by kernel_rfl) (by kernel_rfl) hQ (by kernel_rfl) (fun W _ => eqg_sameAP a_s a_p a_n a_v0 a_v1 a_v2 a_v3 a_l0 a_l1 a_l2 a_l3 rfl (by kernel_rfl) (by kernel_rfl) W) hs0 ?_
        refine hx_take (i := 6) (oi := _) (v := .bool true) rfl rfl hns (by kernel_rfl) (by kernel_rfl) hQ (by kernel_rfl) (fun _ _ => by kernel_rfl) hs0 ?_
        refine hx_take (i := 7) (oi := _) (v := .bool true) rfl rfl hns (by kernel_rfl) (by kernel_rfl) hQ (by kernel_rfl) (fun _ _ => by kernel_rfl) hs0 ?_
        refine hx_take (i := 8) (oi := _) (v := .int .i64 0) rfl rfl hns (by kernel_rfl) (by kernel_rfl) hQ (by kernel_rfl) (fun _ _ => by kernel_rfl) hs0 ?_
        refine hx_take (i := 9) (oi := _) (v := .bool true) rfl rfl hns (by kernel_rfl) (by kernel_rfl) hQ (by kernel_rfl) (fun W _ => eqs_intE (s := 0) rfl (by kernel_rfl) (by kernel_rfl) W) hs0 ?_
        refine hx_take (i := 10) (oi := _) (v := .bool true) rfl rfl hns (by kernel_rfl) (by kernel_rfl) hQ (by kernel_rfl) (fun _ _ => by kernel_rfl) hs0 ?_
        refine hx_take (i := 11) (oi := _) (v := .bool true) rfl rfl hns (by kernel_rfl) (by kernel_rfl) hQ (by kernel_rfl) (fun _ _ => by kernel_rfl) hs0 ?_
        refine hx_take (i := 12) (oi := _) (v := .pointer (some ⟨g6, 5, none⟩)) rfl rfl hns (by kernel_rfl) (by kernel_rfl) hQ (by kernel_rfl) (fun _ _ => by kernel_rfl) hs0 ?_
        refine hx_take (i := 13) (oi := _) (v := .slice (some ⟨rb, ro, none⟩) 1 k8) rfl rfl hns (by kernel_rfl) (by kernel_rfl) hQ (by kernel_rfl) (fun W hW => ld_one rfl (by kernel_rfl) (by kernel_rfl) W (hA6.next hW 0 _ rfl)) hs0 ?_
        refine hx_take (i := 14) (oi := _) (v := .int .i64 1) rfl rfl hns (by kernel_rfl) (by kernel_rfl) hQ (by kernel_rfl) (fun _ _ => by kernel_rfl) hs0 ?_
        refine hx_take (i := 15) (oi := _) (v := .bool true) rfl rfl hns (by kernel_rfl) (by kernel_rfl) hQ (by kernel_rfl) (fun W _ => eqs_int (s := 1) rfl (by kernel_rfl) (by kernel_rfl) W) hs0 ?_
        refine hx_take (i := 16) (oi := _) (v := .bool true) rfl rfl hns (by kernel_rfl) (by kernel_rfl) hQ (by kernel_rfl) (fun _ _ => by kernel_rfl) hs0 ?_
        refine hx_take (i := 17) (oi := _) (v := .bool true) rfl rfl hns (by kernel_rfl) (by kernel_rfl) hQ (by kernel_rfl) (fun _ _ => by kernel_rfl) hs0 ?_
        refine hx_take (i := 18) (oi := _) (v := .pointer (some ⟨g6, 5, none⟩)) rfl rfl hns (by kernel_rfl) (by kernel_rfl) hQ (by kernel_rfl) (fun _ _ => by kernel_rfl) hs0 ?_
        refine hx_take (i := 19) (oi := _) (v := .slice (some ⟨rb, ro, none⟩) 1 k8) rfl rfl hns (by kernel_rfl) (by kernel_rfl) hQ (by kernel_rfl) (fun W hW => ld_one rfl (by kernel_rfl) (by kernel_rfl) W (hA6.next hW 0 _ rfl)) hs0 ?_
        refine hx_take (i := 20) (oi := _) (v := .pointer (some ⟨rb, ro + 0 * 12, none⟩)) rfl rfl hns (by kernel_rfl) (by kernel_rfl) hQ (by kernel_rfl) (fun W _ => ix_sl (n := 1) (c := k8) (K := 12) rfl (by kernel_rfl) (by kernel_rfl) (by kernel_rfl) rfl (by omega) W) hs0 ?_
        refine hx_take (i := 21) (oi := _) (v := .pointer (some ⟨rb, ro + 0 * 12, none⟩)) rfl rfl hns (by kernel_rfl) (by kernel_rfl) hQ (by kernel_rfl) (fun _ _ => by kernel_rfl) hs0 ?_
        refine hx_take (i := 22) (oi := _) (v := .agg #[.string ⟨a_s.toArray⟩, .string ⟨a_p.toArray⟩, .int .i64 a_n, .bool a_v0, .string ⟨a_l0.toArray⟩, .bool a_v1, .string ⟨a_l1.toArray⟩, .bool a_v2, .string ⟨a_l2.toArray⟩, .bool a_v3, .string ⟨a_l3.toArray⟩]) rfl rfl hns (by kernel_rfl) (by kernel_rfl) hQ (by kernel_rfl) (fun W hW => ld_at rfl (by kernel_rfl) (by kernel_rfl) (by kernel_rfl) W (hA7a.next hW)) hs0 ?_
        refine hx_take (i := 23) (oi := _) (v := .agg #[.string ⟨a_s.toArray⟩, .string ⟨a_p.toArray⟩, .int .i64 a_n, .bool a_v0, .string ⟨a_l0.toArray⟩, .bool a_v1, .string ⟨a_l1.toArray⟩, .bool a_v2, .string ⟨a_l2.toArray⟩, .bool a_v3, .string ⟨a_l3.toArray⟩]) rfl rfl hns (by kernel_rfl) (by kernel_rfl) hQ (by kernel_rfl) (fun W hW => ld_at rfl (by kernel_rfl) (by kernel_rfl) (by kernel_rfl) W (hA4.next hW)) hs0 ?_
        refine hx_take (i := 24) (oi := _) (v := .bool true) rfl rfl hns (by kernel_rfl) (by kernel_rfl) hQ (by kernel_rfl) (fun W _ => eqg_sameAP a_s a_p a_n a_v0 a_v1 a_v2 a_v3 a_l0 a_l1 a_l2 a_l3 rfl (by kernel_rfl) (by kernel_rfl) W) hs0 ?_
        refine hx_take (i := 25) (oi := _) (v := .bool true) rfl rfl hns (by kernel_rfl) (by kernel_rfl) hQ (by kernel_rfl) (fun _ _ => by kernel_rfl) hs0 ?_
        refine hx_take (i := 26) (oi := _) (v := .bool true) rfl rfl hns (by kernel_rfl) (by kernel_rfl) hQ (by kernel_rfl) (fun _ _ => by kernel_rfl) hs0 ?_
        refine hx_take (i := 27) (oi := _) (v := .pointer (some ⟨g6, 5, none⟩)) rfl rfl hns (by kernel_rfl) (by kernel_rfl) hQ (by kernel_rfl) (fun _ _ => by kernel_rfl) hs0 ?_
        refine hx_take (i := 28) (oi := _) (v := .slice (some ⟨rb, ro, none⟩) 1 k8) rfl rfl hns (by kernel_rfl) (by kernel_rfl) hQ (by kernel_rfl) (fun W hW => ld_one rfl (by kernel_rfl) (by kernel_rfl) W (hA6.next hW 0 _ rfl)) hs0 ?_
        refine hx_take (i := 29) (oi := _) (v := .pointer (some ⟨rb, ro + 0 * 12, none⟩)) rfl rfl hns (by kernel_rfl) (by kernel_rfl) hQ (by kernel_rfl) (fun W _ => ix_sl (n := 1) (c := k8) (K := 12) rfl (by kernel_rfl) (by kernel_rfl) (by kernel_rfl) rfl (by omega) W) hs0 ?_
        refine hx_take (i := 30) (oi := _) (v := .pointer (some ⟨rb, ro + 0 * 12 + 11, none⟩)) rfl rfl hns (by kernel_rfl) (by kernel_rfl) hQ (by kernel_rfl) (fun _ _ => by kernel_rfl) hs0 ?_
        refine hx_take (i := 31) (oi := _) (v := .slice ua 0 uc) rfl rfl hns (by kernel_rfl) (by kernel_rfl) hQ (by kernel_rfl) (fun W hW => ld_one rfl (by kernel_rfl) (by kernel_rfl) W (hA7c.next hW 0 _ rfl)) hs0 ?_
        refine hx_take (i := 32) (oi := _) (v := .int .i64 0) rfl rfl hns (by kernel_rfl) (by kernel_rfl) hQ (by kernel_rfl) (fun _ _ => by kernel_rfl) hs0 ?_
        refine hx_take (i := 33) (oi := _) (v := .bool true) rfl rfl hns (by kernel_rfl) (by kernel_rfl) hQ (by kernel_rfl) (fun W _ => eqs_int (s := 0) rfl (by kernel_rfl) (by kernel_rfl) W) hs0 ?_
        refine hx_take (i := 34) (oi := _) (v := .bool true) rfl rfl hns (by kernel_rfl) (by kernel_rfl) hQ (by kernel_rfl) (fun _ _ => by kernel_rfl) hs0 ?_
        refine hx_take (i := 35) (oi := _) (v := .bool true) rfl rfl hns (by kernel_rfl) (by kernel_rfl) hQ (by kernel_rfl) (fun _ _ => by kernel_rfl) hs0 ?_
        refine hx_take (i := 36) (oi := _) (v := .agg #[.string ⟨a_s.toArray⟩, .string ⟨a_p.toArray⟩, .int .i64 a_n, .bool a_v0, .string ⟨a_l0.toArray⟩, .bool a_v1, .string ⟨a_l1.toArray⟩, .bool a_v2, .string ⟨a_l2.toArray⟩, .bool a_v3, .string ⟨a_l3.toArray⟩]) rfl rfl hns (by kernel_rfl) (by kernel_rfl) hQ (by kernel_rfl) (fun W hW => ld_at rfl (by kernel_rfl) (by kernel_rfl) (by kernel_rfl) W (hA4.next hW)) hs0 ?_
        refine hx_call (i := 37) (oi := _) 15 #[.agg #[.string ⟨a_s.toArray⟩, .string ⟨a_p.toArray⟩, .int .i64 a_n, .bool a_v0, .string ⟨a_l0.toArray⟩, .bool a_v1, .string ⟨a_l1.toArray⟩, .bool a_v2, .string ⟨a_l2.toArray⟩, .bool a_v3, .string ⟨a_l3.toArray⟩]] rfl rfl (by kernel_rfl) (by kernel_rfl) (by kernel_rfl) (HCK.out _) ?_
        rintro e wx51 ⟨rfl, hb⟩
        have hs1 : Since wJ wx51 := hs0.trans hb
        clear hb
        refine ⟨_, rfl, hs1, ?_⟩
        refine hx_take (i := 38) (oi := _) (v := .bool true) rfl rfl hns (by kernel_rfl) (by kernel_rfl) hQ (by kernel_rfl) (fun W _ => eqs_intE (s := 0) rfl (by kernel_rfl) (by kernel_rfl) W) hs1 ?_
        refine hx_take (i := 39) (oi := _) (v := .bool true) rfl rfl hns (by kernel_rfl) (by kernel_rfl) hQ (by kernel_rfl) (fun _ _ => by kernel_rfl) hs1 ?_
        refine hx_take (i := 40) (oi := _) (v := .bool true) rfl rfl hns (by kernel_rfl) (by kernel_rfl) hQ (by kernel_rfl) (fun _ _ => by kernel_rfl) hs1 ?_
        refine wpAnyH_done (by kernel_rfl) ?_ _
        clear hns hQ
        simp only [List.set_cons_zero, List.set_cons_succ]
        go_wp2_with fail
        exact hgood.out _ (hSJ.trans hs1)
      · have h2n := HON.out.1 hh
        have hK1 : K (.returned (.bool (!(h2 == 0)))) wJ := by rw [show (h2 == 0) = false by simpa using h2n]; exact hgood.out _ hSJ
        clear hB4 hB5 hB6 hO4 HON
        go_wp2_with fail
        first | exact hgood.out _ hSJ | exact hK1
  · clear hB1 hB2 hB3 hO1 hO2 hO3 HPQ HLS HLT
    go_wp2_with fail
    refine (HA1.out _ hSB).mono ?_
    rintro e wE ⟨rfl, hb⟩
    have hSE := hSB.trans hb
    clear hb HA1
    obtain ⟨wF, hwx⟩ : ∃ W, Hid (W = wE.alloc (.cells #[.string ⟨a_s.toArray⟩, .string ⟨a_p.toArray⟩, .int .i64 a_n, .bool a_v0, .string ⟨a_l0.toArray⟩, .bool a_v1, .string ⟨a_l1.toArray⟩, .bool a_v2, .string ⟨a_l2.toArray⟩, .bool a_v3, .string ⟨a_l3.toArray⟩] 44)) := ⟨_, rfl⟩
    have hb : Since wE wF := by rw [hwx.out]; exact (Since.refl wE).alloc _
    have hB4 : Cel wF wE.heap.size #[.string ⟨a_s.toArray⟩, .string ⟨a_p.toArray⟩, .int .i64 a_n, .bool a_v0, .string ⟨a_l0.toArray⟩, .bool a_v1, .string ⟨a_l1.toArray⟩, .bool a_v2, .string ⟨a_l2.toArray⟩, .bool a_v3, .string ⟨a_l3.toArray⟩] 44 := by rw [hwx.out]; exact heap_alloc_new wE _
    have hSF := hSE.trans hb
    clear hb
    go_upto_region 16 with (fail)
    rw [← hwx.out]
    obtain ⟨g4, hgx⟩ : ∃ g, Hid (g = wE.heap.size) := ⟨_, rfl⟩
    simp only [← hgx.out]
    rw [← hgx.out] at hB4
    clear hgx hwx
    go_wp2_with fail
    refine (HG1.out _ hSF).mono ?_
    rintro e wG ⟨rfl, hb⟩
    have hSG := hSF.trans hb
    replace hB4 := hB4.next hb
    clear hb HG1
    obtain ⟨wH, hwx⟩ : ∃ W, Hid (W = wG.alloc (.cells #[.string ⟨b_s.toArray⟩, .string ⟨b_p.toArray⟩, .int .i64 b_n, .bool b_v0, .string ⟨b_l0.toArray⟩, .bool b_v1, .string ⟨b_l1.toArray⟩, .bool b_v2, .string ⟨b_l2.toArray⟩, .bool b_v3, .string ⟨b_l3.toArray⟩] 44)) := ⟨_, rfl⟩
    have hb : Since wG wH := by rw [hwx.out]; exact (Since.refl wG).alloc _
    have hB5 : Cel wH wG.heap.size #[.string ⟨b_s.toArray⟩, .string ⟨b_p.toArray⟩, .int .i64 b_n, .bool b_v0, .string ⟨b_l0.toArray⟩, .bool b_v1, .string ⟨b_l1.toArray⟩, .bool b_v2, .string ⟨b_l2.toArray⟩, .bool b_v3, .string ⟨b_l3.toArray⟩] 44 := by rw [hwx.out]; exact heap_alloc_new wG _
    have hSH := hSG.trans hb
    replace hB4 := hB4.next hb
    clear hb
    go_upto_region 17 with (fail)
    rw [← hwx.out]
    obtain ⟨g5, hgx⟩ : ∃ g, Hid (g = wG.heap.size) := ⟨_, rfl⟩
    simp only [← hgx.out]
    rw [← hgx.out] at hB5
    clear hgx hwx
    go_wp2_with fail
    refine (HP4.out _ hSH).mono ?_
    rintro e wI ⟨c3, c4, c5, c6, c7, c8, c9, C4, U4, G4, rfl, hO4, hb⟩
    have hSI := hSH.trans hb
    replace hB4 := hB4.next hb
    replace hB5 := hB5.next hb
    clear hb HP4
    obtain ⟨o3, k3, o4, k4, o5, k5, o8, k8, o9, k9, v3, v4, v5, v6, v7, v8, v9⟩ := pol_cells2 hO4
    subst v3 v4 v5 v6 v7 v8 v9
    obtain ⟨wJ, hwx⟩ : ∃ W, Hid (W = wI.alloc (.cells #[.slice o3 P4.pr.length k3, .slice o4 P4.pd.length k4, .slice o5 P4.cl.length k5, .int .i64 P4.qu, .int .i64 P4.bu, .slice o8 P4.ru.length k8, .slice o9 P4.gr.length k9] 29)) := ⟨_, rfl⟩
    have hb : Since wI wJ := by rw [hwx.out]; exact (Since.refl wI).alloc _
    have hB6 : Cel wJ wI.heap.size #[.slice o3 P4.pr.length k3, .slice o4 P4.pd.length k4, .slice o5 P4.cl.length k5, .int .i64 P4.qu, .int .i64 P4.bu, .slice o8 P4.ru.length k8, .slice o9 P4.gr.length k9] 29 := by rw [hwx.out]; exact heap_alloc_new wI _
    have hSJ := hSI.trans hb
    replace hB4 := hB4.next hb
    replace hB5 := hB5.next hb
    replace hO4 := hO4.next hb
    clear hb
    go_upto_region 18 with (fail)
    rw [← hwx.out]
    obtain ⟨g6, hgx⟩ : ∃ g, Hid (g = wI.heap.size) := ⟨_, rfl⟩
    simp only [← hgx.out]
    rw [← hgx.out] at hB6
    clear hgx hwx
    by_cases hh : h = 0
    · obtain ⟨e1, e2, e3, e4, e5, e6⟩ := HON.out.2 hh
      subst hh; subst e1; subst e3; subst e4
      simp only [Prod.mk.injEq] at e2
      obtain ⟨j0, j1, j2, ⟨j3, j4⟩, ⟨j5, j6⟩, ⟨j7, j8⟩, j9, j10⟩ := e2
      replace j0 := j0.symm; replace j1 := j1.symm; replace j2 := j2.symm; replace j3 := j3.symm; replace j4 := j4.symm; replace j5 := j5.symm; replace j6 := j6.symm; replace j7 := j7.symm; replace j8 := j8.symm; replace j9 := j9.symm; replace j10 := j10.symm
      subst j0; subst j1; subst j2; subst j3; subst j4; subst j5; subst j6; subst j7; subst j8; subst j9; subst j10
      have HCK : Hid (∀ W, Calls Tryz.prog 15 #[.agg #[.string ⟨a_s.toArray⟩, .string ⟨a_p.toArray⟩, .int .i64 a_n, .bool a_v0, .string ⟨a_l0.toArray⟩, .bool a_v1, .string ⟨a_l1.toArray⟩, .bool a_v2, .string ⟨a_l2.toArray⟩, .bool a_v3, .string ⟨a_l3.toArray⟩]] W fun e w' => e = .returned (.int .i64 0) ∧ Since W w') := fun W => by
        have k := rcheck_any a_s a_p a_n a_v0 a_v1 a_v2 a_v3 a_l0 a_l1 a_l2 a_l3 W (valid_fits e5)
        rw [e5] at k
        exact k
      obtain ⟨rb, ro, rc, ua, uc, e7, hrc, hA7⟩ := one_rule hO4
      obtain ⟨j0, -, j1⟩ := Value.slice.inj e7
      subst j0; subst j1
      replace hA7 : At wJ rb (ro + 0 * 12) #[.string ⟨a_s.toArray⟩, .string ⟨a_p.toArray⟩, .int .i64 a_n, .bool a_v0, .string ⟨a_l0.toArray⟩, .bool a_v1, .string ⟨a_l1.toArray⟩, .bool a_v2, .string ⟨a_l2.toArray⟩, .bool a_v3, .string ⟨a_l3.toArray⟩, .slice ua 0 uc] := hA7
      have hA7a : At wJ rb (ro + 0 * 12) #[.string ⟨a_s.toArray⟩, .string ⟨a_p.toArray⟩, .int .i64 a_n, .bool a_v0, .string ⟨a_l0.toArray⟩, .bool a_v1, .string ⟨a_l1.toArray⟩, .bool a_v2, .string ⟨a_l2.toArray⟩, .bool a_v3, .string ⟨a_l3.toArray⟩] := at_subP hA7 0 11
      have hA7c : At wJ rb (ro + 0 * 12 + 11) #[.slice ua 0 uc] := at_subP hA7 11 1
      have hA4 : At wJ g4 0 #[.string ⟨a_s.toArray⟩, .string ⟨a_p.toArray⟩, .int .i64 a_n, .bool a_v0, .string ⟨a_l0.toArray⟩, .bool a_v1, .string ⟨a_l1.toArray⟩, .bool a_v2, .string ⟨a_l2.toArray⟩, .bool a_v3, .string ⟨a_l3.toArray⟩] := hB4.at
      have hA5 : At wJ g5 0 #[.string ⟨a_s.toArray⟩, .string ⟨a_p.toArray⟩, .int .i64 a_n, .bool a_v0, .string ⟨a_l0.toArray⟩, .bool a_v1, .string ⟨a_l1.toArray⟩, .bool a_v2, .string ⟨a_l2.toArray⟩, .bool a_v3, .string ⟨a_l3.toArray⟩] := hB5.at
      have hA6 : At wJ g6 5 #[.slice (some ⟨rb, ro, none⟩) 1 k8] := At.one (hB6.cell 5)
      clear e5 e6 e7 hB4 hB5 hB6 hO4 HON hrc hA7
      go_upto_region 20 with (fail)
      have hs0 : Since wJ wJ.drew := (Since.refl _).drew
      refine hx_begin (S := fun W => Since wJ W) (by kernel_rfl) hs0 (by kernel_rfl) (fun _ _ _ _ _ h => h) (fun hns hQ => ?_)
      refine hx_take (i := 0) (oi := _) (v := .int .i64 0) rfl rfl hns (by kernel_rfl) (by kernel_rfl) hQ (by kernel_rfl) (fun _ _ => by kernel_rfl) hs0 ?_
      refine hx_take (i := 1) (oi := _) (v := .bool true) rfl rfl hns (by kernel_rfl) (by kernel_rfl) hQ (by kernel_rfl) (fun W _ => eqs_intE (s := 0) rfl (by kernel_rfl) (by kernel_rfl) W) hs0 ?_
      refine hx_take (i := 2) (oi := _) (v := .bool true) rfl rfl hns (by kernel_rfl) (by kernel_rfl) hQ (by kernel_rfl) (fun _ _ => by kernel_rfl) hs0 ?_
      refine hx_take (i := 3) (oi := _) (v := .agg #[.string ⟨a_s.toArray⟩, .string ⟨a_p.toArray⟩, .int .i64 a_n, .bool a_v0, .string ⟨a_l0.toArray⟩, .bool a_v1, .string ⟨a_l1.toArray⟩, .bool a_v2, .string ⟨a_l2.toArray⟩, .bool a_v3, .string ⟨a_l3.toArray⟩]) rfl rfl hns (by kernel_rfl) (by kernel_rfl) hQ (by kernel_rfl) (fun W hW => ld_at rfl (by kernel_rfl) (by kernel_rfl) (by kernel_rfl) W (hA4.next hW)) hs0 ?_
      refine hx_take (i := 4) (oi := _) (v := .agg #[.string ⟨a_s.toArray⟩, .string ⟨a_p.toArray⟩, .int .i64 a_n, .bool a_v0, .string ⟨a_l0.toArray⟩, .bool a_v1, .string ⟨a_l1.toArray⟩, .bool a_v2, .string ⟨a_l2.toArray⟩, .bool a_v3, .string ⟨a_l3.toArray⟩]) rfl rfl hns (by kernel_rfl) (by kernel_rfl) hQ (by kernel_rfl) (fun W hW => ld_at rfl (by kernel_rfl) (by kernel_rfl) (by kernel_rfl) W (hA5.next hW)) hs0 ?_
      refine hx_take (i := 5) (oi := _) (v := .bool true) rfl rfl hns (by kernel_rfl) (by kernel_rfl) hQ (by kernel_rfl) (fun W _ => eqg_sameAP a_s a_p a_n a_v0 a_v1 a_v2 a_v3 a_l0 a_l1 a_l2 a_l3 rfl (by kernel_rfl) (by kernel_rfl) W) hs0 ?_
      refine hx_take (i := 6) (oi := _) (v := .bool true) rfl rfl hns (by kernel_rfl) (by kernel_rfl) hQ (by kernel_rfl) (fun _ _ => by kernel_rfl) hs0 ?_
      refine hx_take (i := 7) (oi := _) (v := .bool true) rfl rfl hns (by kernel_rfl) (by kernel_rfl) hQ (by kernel_rfl) (fun _ _ => by kernel_rfl) hs0 ?_
      refine hx_take (i := 8) (oi := _) (v := .int .i64 0) rfl rfl hns (by kernel_rfl) (by kernel_rfl) hQ (by kernel_rfl) (fun _ _ => by kernel_rfl) hs0 ?_
      refine hx_take (i := 9) (oi := _) (v := .bool true) rfl rfl hns (by kernel_rfl) (by kernel_rfl) hQ (by kernel_rfl) (fun W _ => eqs_intE (s := 0) rfl (by kernel_rfl) (by kernel_rfl) W) hs0 ?_
      refine hx_take (i := 10) (oi := _) (v := .bool true) rfl rfl hns (by kernel_rfl) (by kernel_rfl) hQ (by kernel_rfl) (fun _ _ => by kernel_rfl) hs0 ?_
      refine hx_take (i := 11) (oi := _) (v := .bool true) rfl rfl hns (by kernel_rfl) (by kernel_rfl) hQ (by kernel_rfl) (fun _ _ => by kernel_rfl) hs0 ?_
      refine hx_take (i := 12) (oi := _) (v := .pointer (some ⟨g6, 5, none⟩)) rfl rfl hns (by kernel_rfl) (by kernel_rfl) hQ (by kernel_rfl) (fun _ _ => by kernel_rfl) hs0 ?_
      refine hx_take (i := 13) (oi := _) (v := .slice (some ⟨rb, ro, none⟩) 1 k8) rfl rfl hns (by kernel_rfl) (by kernel_rfl) hQ (by kernel_rfl) (fun W hW => ld_one rfl (by kernel_rfl) (by kernel_rfl) W (hA6.next hW 0 _ rfl)) hs0 ?_
      refine hx_take (i := 14) (oi := _) (v := .int .i64 1) rfl rfl hns (by kernel_rfl) (by kernel_rfl) hQ (by kernel_rfl) (fun _ _ => by kernel_rfl) hs0 ?_
      refine hx_take (i := 15) (oi := _) (v := .bool true) rfl rfl hns (by kernel_rfl) (by kernel_rfl) hQ (by kernel_rfl) (fun W _ => eqs_int (s := 1) rfl (by kernel_rfl) (by kernel_rfl) W) hs0 ?_
      refine hx_take (i := 16) (oi := _) (v := .bool true) rfl rfl hns (by kernel_rfl) (by kernel_rfl) hQ (by kernel_rfl) (fun _ _ => by kernel_rfl) hs0 ?_
      refine hx_take (i := 17) (oi := _) (v := .bool true) rfl rfl hns (by kernel_rfl) (by kernel_rfl) hQ (by kernel_rfl) (fun _ _ => by kernel_rfl) hs0 ?_
      refine hx_take (i := 18) (oi := _) (v := .pointer (some ⟨g6, 5, none⟩)) rfl rfl hns (by kernel_rfl) (by kernel_rfl) hQ (by kernel_rfl) (fun _ _ => by kernel_rfl) hs0 ?_
      refine hx_take (i := 19) (oi := _) (v := .slice (some ⟨rb, ro, none⟩) 1 k8) rfl rfl hns (by kernel_rfl) (by kernel_rfl) hQ (by kernel_rfl) (fun W hW => ld_one rfl (by kernel_rfl) (by kernel_rfl) W (hA6.next hW 0 _ rfl)) hs0 ?_
      refine hx_take (i := 20) (oi := _) (v := .pointer (some ⟨rb, ro + 0 * 12, none⟩)) rfl rfl hns (by kernel_rfl) (by kernel_rfl) hQ (by kernel_rfl) (fun W _ => ix_sl (n := 1) (c := k8) (K := 12) rfl (by kernel_rfl) (by kernel_rfl) (by kernel_rfl) rfl (by omega) W) hs0 ?_
      refine hx_take (i := 21) (oi := _) (v := .pointer (some ⟨rb, ro + 0 * 12, none⟩)) rfl rfl hns (by kernel_rfl) (by kernel_rfl) hQ (by kernel_rfl) (fun _ _ => by kernel_rfl) hs0 ?_
      refine hx_take (i := 22) (oi := _) (v := .agg #[.string ⟨a_s.toArray⟩, .string ⟨a_p.toArray⟩, .int .i64 a_n, .bool a_v0, .string ⟨a_l0.toArray⟩, .bool a_v1, .string ⟨a_l1.toArray⟩, .bool a_v2, .string ⟨a_l2.toArray⟩, .bool a_v3, .string ⟨a_l3.toArray⟩]) rfl rfl hns (by kernel_rfl) (by kernel_rfl) hQ (by kernel_rfl) (fun W hW => ld_at rfl (by kernel_rfl) (by kernel_rfl) (by kernel_rfl) W (hA7a.next hW)) hs0 ?_
      refine hx_take (i := 23) (oi := _) (v := .agg #[.string ⟨a_s.toArray⟩, .string ⟨a_p.toArray⟩, .int .i64 a_n, .bool a_v0, .string ⟨a_l0.toArray⟩, .bool a_v1, .string ⟨a_l1.toArray⟩, .bool a_v2, .string ⟨a_l2.toArray⟩, .bool a_v3, .string ⟨a_l3.toArray⟩]) rfl rfl hns (by kernel_rfl) (by kernel_rfl) hQ (by kernel_rfl) (fun W hW => ld_at rfl (by kernel_rfl) (by kernel_rfl) (by kernel_rfl) W (hA4.next hW)) hs0 ?_
      refine hx_take (i := 24) (oi := _) (v := .bool true) rfl rfl hns (by kernel_rfl) (by kernel_rfl) hQ (by kernel_rfl) (fun W _ => eqg_sameAP a_s a_p a_n a_v0 a_v1 a_v2 a_v3 a_l0 a_l1 a_l2 a_l3 rfl (by kernel_rfl) (by kernel_rfl) W) hs0 ?_
      refine hx_take (i := 25) (oi := _) (v := .bool true) rfl rfl hns (by kernel_rfl) (by kernel_rfl) hQ (by kernel_rfl) (fun _ _ => by kernel_rfl) hs0 ?_
      refine hx_take (i := 26) (oi := _) (v := .bool true) rfl rfl hns (by kernel_rfl) (by kernel_rfl) hQ (by kernel_rfl) (fun _ _ => by kernel_rfl) hs0 ?_
      refine hx_take (i := 27) (oi := _) (v := .pointer (some ⟨g6, 5, none⟩)) rfl rfl hns (by kernel_rfl) (by kernel_rfl) hQ (by kernel_rfl) (fun _ _ => by kernel_rfl) hs0 ?_
      refine hx_take (i := 28) (oi := _) (v := .slice (some ⟨rb, ro, none⟩) 1 k8) rfl rfl hns (by kernel_rfl) (by kernel_rfl) hQ (by kernel_rfl) (fun W hW => ld_one rfl (by kernel_rfl) (by kernel_rfl) W (hA6.next hW 0 _ rfl)) hs0 ?_
      refine hx_take (i := 29) (oi := _) (v := .pointer (some ⟨rb, ro + 0 * 12, none⟩)) rfl rfl hns (by kernel_rfl) (by kernel_rfl) hQ (by kernel_rfl) (fun W _ => ix_sl (n := 1) (c := k8) (K := 12) rfl (by kernel_rfl) (by kernel_rfl) (by kernel_rfl) rfl (by omega) W) hs0 ?_
      refine hx_take (i := 30) (oi := _) (v := .pointer (some ⟨rb, ro + 0 * 12 + 11, none⟩)) rfl rfl hns (by kernel_rfl) (by kernel_rfl) hQ (by kernel_rfl) (fun _ _ => by kernel_rfl) hs0 ?_
      refine hx_take (i := 31) (oi := _) (v := .slice ua 0 uc) rfl rfl hns (by kernel_rfl) (by kernel_rfl) hQ (by kernel_rfl) (fun W hW => ld_one rfl (by kernel_rfl) (by kernel_rfl) W (hA7c.next hW 0 _ rfl)) hs0 ?_
      refine hx_take (i := 32) (oi := _) (v := .int .i64 0) rfl rfl hns (by kernel_rfl) (by kernel_rfl) hQ (by kernel_rfl) (fun _ _ => by kernel_rfl) hs0 ?_
      refine hx_take (i := 33) (oi := _) (v := .bool true) rfl rfl hns (by kernel_rfl) (by kernel_rfl) hQ (by kernel_rfl) (fun W _ => eqs_int (s := 0) rfl (by kernel_rfl) (by kernel_rfl) W) hs0 ?_
      refine hx_take (i := 34) (oi := _) (v := .bool true) rfl rfl hns (by kernel_rfl) (by kernel_rfl) hQ (by kernel_rfl) (fun _ _ => by kernel_rfl) hs0 ?_
      refine hx_take (i := 35) (oi := _) (v := .bool true) rfl rfl hns (by kernel_rfl) (by kernel_rfl) hQ (by kernel_rfl) (fun _ _ => by kernel_rfl) hs0 ?_
      refine hx_take (i := 36) (oi := _) (v := .agg #[.string ⟨a_s.toArray⟩, .string ⟨a_p.toArray⟩, .int .i64 a_n, .bool a_v0, .string ⟨a_l0.toArray⟩, .bool a_v1, .string ⟨a_l1.toArray⟩, .bool a_v2, .string ⟨a_l2.toArray⟩, .bool a_v3, .string ⟨a_l3.toArray⟩]) rfl rfl hns (by kernel_rfl) (by kernel_rfl) hQ (by kernel_rfl) (fun W hW => ld_at rfl (by kernel_rfl) (by kernel_rfl) (by kernel_rfl) W (hA4.next hW)) hs0 ?_
      refine hx_call (i := 37) (oi := _) 15 #[.agg #[.string ⟨a_s.toArray⟩, .string ⟨a_p.toArray⟩, .int .i64 a_n, .bool a_v0, .string ⟨a_l0.toArray⟩, .bool a_v1, .string ⟨a_l1.toArray⟩, .bool a_v2, .string ⟨a_l2.toArray⟩, .bool a_v3, .string ⟨a_l3.toArray⟩]] rfl rfl (by kernel_rfl) (by kernel_rfl) (by kernel_rfl) (HCK.out _) ?_
      rintro e wx51 ⟨rfl, hb⟩
      have hs1 : Since wJ wx51 := hs0.trans hb
      clear hb
      refine ⟨_, rfl, hs1, ?_⟩
      refine hx_take (i := 38) (oi := _) (v := .bool true) rfl rfl hns (by kernel_rfl) (by kernel_rfl) hQ (by kernel_rfl) (fun W _ => eqs_intE (s := 0) rfl (by kernel_rfl) (by kernel_rfl) W) hs1 ?_
      refine hx_take (i := 39) (oi := _) (v := .bool true) rfl rfl hns (by kernel_rfl) (by kernel_rfl) hQ (by kernel_rfl) (fun _ _ => by kernel_rfl) hs1 ?_
      refine hx_take (i := 40) (oi := _) (v := .bool true) rfl rfl hns (by kernel_rfl) (by kernel_rfl) hQ (by kernel_rfl) (fun _ _ => by kernel_rfl) hs1 ?_
      refine wpAnyH_done (by kernel_rfl) ?_ _
      clear hns hQ
      simp only [List.set_cons_zero, List.set_cons_succ]
      go_wp2_with fail
      exact hgood.out _ (hSJ.trans hs1)
    · have h2n := HON.out.1 hh
      have hK1 : K (.returned (.bool (!(h2 == 0)))) wJ := by rw [show (h2 == 0) = false by simpa using h2n]; exact hgood.out _ hSJ
      clear hB4 hB5 hB6 hO4 HON
      go_wp2_with fail
      first | exact hgood.out _ hSJ | exact hK1
end Go.Proofs.YtnfjjckbgnieeaaGreatDoor
