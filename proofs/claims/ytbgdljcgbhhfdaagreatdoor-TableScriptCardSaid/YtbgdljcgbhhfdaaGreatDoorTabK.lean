/- vouchsafekit: LightAtoms, Of, At; a table's contracts; lives of layer 18. -/
import Derived.Test.YtbgdljcgbhhfdaaGreatDoorTabI
import Derived.Test.YtbgdljcgbhhfdaaGreatDoorVarQ
namespace Go.Proofs.YtbgdljcgbhhfdaaGreatDoor
open Go.RowKit Go.Maps Go.WideMaps

def lightAs (most : Int) (L : List Atm) : Bool := if most < (L.length : Int) then false else L.all lightB
theorem of_any (s p v : List UInt8) (w : World) :
    Calls Tryz.prog 28 #[.string ⟨s.toArray⟩, .string ⟨p.toArray⟩, .string ⟨v.toArray⟩] w fun e w' => e = .returned (.agg #[.string ⟨s.toArray⟩, .string ⟨p.toArray⟩, .int .i64 1, .bool true, .string ⟨v.toArray⟩, .bool false, .string ⟨#[]⟩, .bool false, .string ⟨#[]⟩, .bool false, .string ⟨#[]⟩]) ∧ Since w w' := by
  go_enter Tryz.func28, Tryz.ntmps28
  go_wp2
  refine bodyPost_ret (v := .agg #[.string ⟨s.toArray⟩, .string ⟨p.toArray⟩, .int .i64 1, .bool true, .string ⟨v.toArray⟩, .bool false, .string ⟨#[]⟩, .bool false, .string ⟨#[]⟩, .bool false, .string ⟨#[]⟩]) (by simp [results, Tryz.results28, go_sem]) rfl ⟨rfl, ?_⟩
  exact ((Since.refl _).alloc _).alloc _
theorem lightAs_of {m : Int} {L : List Atm} (h : lightAs m L = true) : (L.length : Int) ≤ m ∧ ∀ a ∈ L, lightB a = true := by
  unfold lightAs at h
  split at h
  · cases h
  · next h1 => exact ⟨by omega, fun a ha => List.all_eq_true.1 h a ha⟩
theorem Tab.le {W : World} {B g : Nat} {Z : Nat → Prop} {S : List TCall} (h : Tab W B g Z S) : B ≤ W.heap.size := by
  obtain ⟨⟨mp, np, cv, R, h1, _⟩, _⟩ := h
  have := h1.bg
  have := h1.cel.lt
  omega
theorem Tab.fits {W : World} {B g : Nat} {Z : Nat → Prop} {S : List TCall} (h : Tab W B g Z S) : ∀ c ∈ S, FitsN c.1 := by
  obtain ⟨⟨mp, np, cv, R, h1, _⟩, _⟩ := h
  exact fun c hc => h1.fits c.1 (List.mem_map.2 ⟨c, hc, rfl⟩)
theorem Tab.nd {W : World} {B g : Nat} {Z : Nat → Prop} {S : List TCall} (h : Tab W B g Z S) : (S.map fun c => c.1).Nodup := by
  obtain ⟨⟨mp, np, cv, R, h1, _⟩, _⟩ := h
  exact h1.nd
/-- What a call of the table leaves, for one who keeps blocks of his own. -/
theorem TOp.split {Z : Nat → Prop} {B g : Nat} {w w' : World} {S' : List TCall} (h : TOp Z B g w w' S') : ∃ Z', Tab w' B g Z' S' ∧ Keep Z w w' ∧ ∀ b, b < w.heap.size → ¬ Z b → ¬ Z' b :=
  ⟨_, h.tab, h.keep, fun b hb hn hz => hz.elim hn (fun hz => by omega)⟩
theorem Tab.since {W W' w0 : World} {B g : Nat} {Z : Nat → Prop} {S : List TCall} (h : Tab W B g Z S) (hk : Keep Z W W') (h0 : Since w0 W) (hB : w0.heap.size ≤ B) : Since w0 W' :=
  hk.since h0 fun x hx => Nat.le_trans hB (h.low x hx).1
theorem tnew_t (w : World) : Calls Tryz.prog 6 #[] w fun e w' => ∃ g, e = .returned (.pointer (some ⟨g, 0, none⟩)) ∧ (∃ Z, Tab w' w.heap.size g Z []) ∧ Since w w' := by
  refine (tnew_any w).mono ?_
  rintro e w' ⟨g, mp, rfl, hT, hS⟩
  exact ⟨g, rfl, ⟨fun b => w.heap.size ≤ b ∧ b < w'.heap.size, ⟨_, _, _, _, hT, hT.inside⟩, fun b hb => hb⟩, hS⟩
def openS (S : List TCall) (a : Atm) : Nat × Bool × List TCall :=
  match posF (S.map fun c => c.1) (canA a) 0 with
  | some j => (j, false, S)
  | none => (S.length, true, S ++ [(canA a, [], [])])
theorem openS_facts {S S' : List TCall} {a : Atm} {id : Nat} {fr : Bool} (h : openS S a = (id, fr, S')) :
    posF (S'.map fun c => c.1) (canA a) 0 = some id ∧ (posF (S.map fun c => c.1) (canA a) 0 = if fr then none else some id) ∧ (fr = true → id = S.length ∧ S' = S ++ [(canA a, [], [])]) ∧ (fr = false → id < S.length ∧ S' = S) ∧ ∃ hi : id < S'.length, (S'[id]'hi).1 = canA a := by
  unfold openS at h
  have key : ∀ (T : List TCall) (j : Nat), posF (T.map fun c : TCall => c.1) (canA a) 0 = some j → ∃ hi : j < T.length, ((T[j]'hi : TCall)).1 = canA a := by
    intro T j hj
    have h1 := posF_lt hj
    rw [List.length_map] at h1
    refine ⟨by omega, ?_⟩
    have h2 := h1.2.2
    rw [List.getElem?_map, Nat.sub_zero, List.getElem?_eq_getElem (by omega)] at h2
    simpa using h2
  cases hp : posF (S.map fun c => c.1) (canA a) 0 with
  | some j =>
    rw [hp] at h
    injection h with h1 h2
    injection h2 with h2 h3
    subst h1 h2 h3
    have := (key S j hp).1
    exact ⟨hp, rfl, (fun e => by cases e), fun _ => ⟨this, rfl⟩, key S j hp⟩
  | none =>
    rw [hp] at h
    injection h with h1 h2
    injection h2 with h2 h3
    subst h1 h2 h3
    have hq : posF ((S ++ [(canA a, [], [])]).map fun c : TCall => c.1) (canA a) 0 = some S.length := by
      rw [List.map_append]
      show posF ((S.map fun c : TCall => c.1) ++ [canA a]) (canA a) 0 = _
      rw [posF_snoc, hp]
      simp
    exact ⟨hq, rfl, fun _ => ⟨rfl, rfl⟩, (fun e => by cases e), key _ _ hq⟩
theorem topen_t {B g : Nat} {Z : Nat → Prop} {S S' : List TCall} (a_s a_p : List UInt8) (a_n : Int) (a_v0 a_v1 a_v2 a_v3 : Bool) (a_l0 a_l1 a_l2 a_l3 : List UInt8) (w : World) (h : Tab w B g Z S) (hf : FitsN ((a_s, a_p, a_n, (a_v0, a_l0), (a_v1, a_l1), (a_v2, a_l2), (a_v3, a_l3)) : Atm)) (hE : Env w) (hk : checkA ((a_s, a_p, a_n, (a_v0, a_l0), (a_v1, a_l1), (a_v2, a_l2), (a_v3, a_l3)) : Atm) = 0) (hl : S.length < 1000) {id : Nat} {fr : Bool} (ho : openS S ((a_s, a_p, a_n, (a_v0, a_l0), (a_v1, a_l1), (a_v2, a_l2), (a_v3, a_l3)) : Atm) = (id, fr, S')) :
    Calls Tryz.prog 9 #[.pointer (some ⟨g, 0, none⟩), .agg #[.string ⟨a_s.toArray⟩, .string ⟨a_p.toArray⟩, .int .i64 a_n, .bool a_v0, .string ⟨a_l0.toArray⟩, .bool a_v1, .string ⟨a_l1.toArray⟩, .bool a_v2, .string ⟨a_l2.toArray⟩, .bool a_v3, .string ⟨a_l3.toArray⟩]] w fun e w' => e = .returned (.tuple #[.int .i64 (id : Int), .bool fr, .int .i64 0]) ∧ TOp Z B g w w' S' := by
  have hB := h.le
  have h' := h
  obtain ⟨⟨mp, np, cv, R, h1, h2⟩, h3⟩ := h
  unfold openS at ho
  cases hp : posF (S.map fun c => c.1) (canA ((a_s, a_p, a_n, (a_v0, a_l0), (a_v1, a_l1), (a_v2, a_l2), (a_v3, a_l3)) : Atm)) 0 with
  | some j =>
    rw [hp] at ho
    injection ho with e1 e2
    injection e2 with e2 e3
    subst e1 e2 e3
    refine (topen_old a_s a_p a_n a_v0 a_v1 a_v2 a_v3 a_l0 a_l1 a_l2 a_l3 w h1 hf hE hk j hp).mono ?_
    rintro e w' ⟨rfl, hb⟩
    exact ⟨rfl, TOp.same h' hb hB⟩
  | none =>
    rw [hp] at ho
    injection ho with e1 e2
    injection e2 with e2 e3
    subst e1 e2 e3
    refine (topen_new a_s a_p a_n a_v0 a_v1 a_v2 a_v3 a_l0 a_l1 a_l2 a_l3 w h1 hf hE hk hp hl hB).mono ?_
    rintro e w' ⟨rfl, np', cv', R', k1, k2, k3⟩
    exact ⟨rfl, TOp.of h2 h3 hB k1 k3 k2⟩
theorem tfind_t {B g : Nat} {Z : Nat → Prop} {S : List TCall} (a_s a_p : List UInt8) (a_n : Int) (a_v0 a_v1 a_v2 a_v3 : Bool) (a_l0 a_l1 a_l2 a_l3 : List UInt8) (w : World) (h : Tab w B g Z S) (hf : FitsN ((a_s, a_p, a_n, (a_v0, a_l0), (a_v1, a_l1), (a_v2, a_l2), (a_v3, a_l3)) : Atm)) :
    Calls Tryz.prog 15 #[.pointer (some ⟨g, 0, none⟩), .agg #[.string ⟨a_s.toArray⟩, .string ⟨a_p.toArray⟩, .int .i64 a_n, .bool a_v0, .string ⟨a_l0.toArray⟩, .bool a_v1, .string ⟨a_l1.toArray⟩, .bool a_v2, .string ⟨a_l2.toArray⟩, .bool a_v3, .string ⟨a_l3.toArray⟩]] w fun e w' => e = .returned (.tuple #[.int .i64 (posV (posF (S.map fun c => c.1) (canA ((a_s, a_p, a_n, (a_v0, a_l0), (a_v1, a_l1), (a_v2, a_l2), (a_v3, a_l3)) : Atm)) 0)), .bool (posF (S.map fun c => c.1) (canA ((a_s, a_p, a_n, (a_v0, a_l0), (a_v1, a_l1), (a_v2, a_l2), (a_v3, a_l3)) : Atm)) 0).isSome]) ∧ Since w w' := by
  obtain ⟨⟨mp, np, cv, R, h1, h2⟩, h3⟩ := h
  exact tfind_any a_s a_p a_n a_v0 a_v1 a_v2 a_v3 a_l0 a_l1 a_l2 a_l3 w h1 hf
theorem tcall_t {B g : Nat} {Z : Nat → Prop} {S : List TCall} (i : Nat) (w : World) (h : Tab w B g Z S) (hi : i < S.length) :
    Calls Tryz.prog 17 #[.pointer (some ⟨g, 0, none⟩), .int .i64 (i : Int)] w fun e w' => e = .returned (.tuple #[.agg (atmC (S[i]).1), .bool true]) ∧ Since w w' := by
  obtain ⟨⟨mp, np, cv, R, h1, h2⟩, h3⟩ := h
  exact tcall_yes i w h1 hi
theorem tcall_tn {B g : Nat} {Z : Nat → Prop} {S : List TCall} (i : Int) (w : World) (h : Tab w B g Z S) (hi : i < 0 ∨ (S.length : Int) ≤ i) :
    Calls Tryz.prog 17 #[.pointer (some ⟨g, 0, none⟩), .int .i64 i] w fun e w' => e = .returned (.tuple #[.agg #[.string ⟨#[]⟩, .string ⟨#[]⟩, .int .i64 0, .bool false, .string ⟨#[]⟩, .bool false, .string ⟨#[]⟩, .bool false, .string ⟨#[]⟩, .bool false, .string ⟨#[]⟩], .bool false]) ∧ Since w w' := by
  obtain ⟨⟨mp, np, cv, R, h1, h2⟩, h3⟩ := h
  exact tcall_no i w h1 hi
theorem tlen_t {B g : Nat} {Z : Nat → Prop} {S : List TCall} (w : World) (h : Tab w B g Z S) :
    Calls Tryz.prog 19 #[.pointer (some ⟨g, 0, none⟩)] w fun e w' => e = .returned (.int .i64 (S.length : Int)) ∧ Since w w' := by
  obtain ⟨⟨mp, np, cv, R, h1, h2⟩, h3⟩ := h
  exact tlen_any w h1
theorem tcount_t {B g : Nat} {Z : Nat → Prop} {S : List TCall} (w : World) (h : Tab w B g Z S) :
    Calls Tryz.prog 20 #[.pointer (some ⟨g, 0, none⟩)] w fun e w' => e = .returned (.int .i64 (cntS S : Int)) ∧ Since w w' := by
  obtain ⟨⟨mp, np, cv, R, h1, h2⟩, h3⟩ := h
  exact tcount_any w h1
theorem twait_t {B g : Nat} {Z : Nat → Prop} {S : List TCall} (i : Nat) (w : World) (h : Tab w B g Z S) (hi : i < S.length) :
    Calls Tryz.prog 23 #[.pointer (some ⟨g, 0, none⟩), .int .i64 (i : Int)] w fun e w' => ∃ v', e = .returned v' ∧ w'.ownsRow w.heap.size 3 1 v' (S[i]).2.2.length ((S[i]).2.2.flatMap intL) ∧ Since w w' := by
  obtain ⟨⟨mp, np, cv, R, h1, h2⟩, h3⟩ := h
  exact twait_yes i w h1 hi
theorem twait_tn {B g : Nat} {Z : Nat → Prop} {S : List TCall} (i : Int) (w : World) (h : Tab w B g Z S) (hi : i < 0 ∨ (S.length : Int) ≤ i) :
    Calls Tryz.prog 23 #[.pointer (some ⟨g, 0, none⟩), .int .i64 i] w fun e w' => e = .returned (.slice none 0 0) ∧ Since w w' := by
  obtain ⟨⟨mp, np, cv, R, h1, h2⟩, h3⟩ := h
  exact twait_no i w h1 hi
theorem tans_t {B g : Nat} {Z : Nat → Prop} {S : List TCall} (i : Nat) (w : World) (h : Tab w B g Z S) (hi : i < S.length) :
    Calls Tryz.prog 26 #[.pointer (some ⟨g, 0, none⟩), .int .i64 (i : Int)] w fun e w' => ∃ v', e = .returned v' ∧ w'.ownsRow w.heap.size 33 11 v' (S[i]).2.1.length ((S[i]).2.1.flatMap atmL) ∧ Since w w' := by
  obtain ⟨⟨mp, np, cv, R, h1, h2⟩, h3⟩ := h
  exact tans_yes i w h1 hi
theorem tans_tn {B g : Nat} {Z : Nat → Prop} {S : List TCall} (i : Int) (w : World) (h : Tab w B g Z S) (hi : i < 0 ∨ (S.length : Int) ≤ i) :
    Calls Tryz.prog 26 #[.pointer (some ⟨g, 0, none⟩), .int .i64 i] w fun e w' => e = .returned (.slice none 0 0) ∧ Since w w' := by
  obtain ⟨⟨mp, np, cv, R, h1, h2⟩, h3⟩ := h
  exact tans_no i w h1 hi
theorem tW_t {B g : Nat} {Z : Nat → Prop} {S : List TCall} (i : Nat) (x : Int) (w : World) (h : Tab w B g Z S) (hi : i < S.length) (hlw : (S[i]).2.2.length < 100000) :
    Calls Tryz.prog 13 #[.pointer (some ⟨g, 0, none⟩), .int .i64 (i : Int), .int .i64 x] w fun e w' => e = .returned (.int .i64 0) ∧ TOp Z B g w w' (S.set i (waitC S[i] x)) := by
  have hB := h.le
  obtain ⟨⟨mp, np, cv, R, h1, h2⟩, h3⟩ := h
  refine (tW_yes i x w h1 hi hlw hB).mono ?_
  rintro e w' ⟨rfl, R', k1, k2, k3⟩
  exact ⟨rfl, TOp.of h2 h3 hB k1 k3 k2⟩
set_option maxHeartbeats 1000000 in
theorem tW_no {B g mp np : Nat} {cv : Value} {R : List CallP} {S : List TCall} (i x : Int) (w : World) (h : TabAt w B g mp np cv R S) (hi : i < 0 ∨ (S.length : Int) ≤ i) :
    Calls Tryz.prog 13 #[.pointer (some ⟨g, 0, none⟩), .int .i64 i, .int .i64 x] w fun e w' => e = .returned (.int .i64 13) ∧ Since w w' := by
  have HAT := Lib.hid (tat_no i w h hi)
  clear h hi
  go_enter Tryz.func13, Tryz.ntmps13
  go_wp2_with fail
  refine HAT.out.mono ?_
  rintro e w2 ⟨rfl, hb2⟩
  go_wp2_with fail
  go_ret
  exact ⟨rfl, hb2⟩
theorem tW_tn {B g : Nat} {Z : Nat → Prop} {S : List TCall} (i x : Int) (w : World) (h : Tab w B g Z S) (hi : i < 0 ∨ (S.length : Int) ≤ i) :
    Calls Tryz.prog 13 #[.pointer (some ⟨g, 0, none⟩), .int .i64 i, .int .i64 x] w fun e w' => e = .returned (.int .i64 13) ∧ Since w w' := by
  obtain ⟨⟨mp, np, cv, R, h1, h2⟩, h3⟩ := h
  exact tW_no i x w h1 hi
theorem vN_zero : vN 0 = [86, 48] := by
  have h1 : Lib.decDigits 0 = [UInt8.ofNat (48 + 0)] := by rw [Lib.decDigits, dif_pos (by omega)]
  unfold vN
  rw [h1]
  rfl
theorem can_of (s p v : List UInt8) : canA ((s, p, 1, (true, v), (false, []), (false, []), (false, [])) : Atm) = ((s, p, 1, (true, [86, 48]), (false, []), (false, []), (false, [])) : Atm) := by
  have hc : countA ((s, p, 1, (true, v), (false, []), (false, []), (false, [])) : Atm) = 1 := rfl
  have hn : namesA ((s, p, 1, (true, v), (false, []), (false, []), (false, [])) : Atm) true = [v] := by
    unfold namesA
    rw [hc]
    simp [argsL, namesF]
  unfold canA
  rw [hn, hc]
  unfold partC
  simp [canT, posF, vN_zero]
theorem fits_of {v : List UInt8} (b : Bool) (h : v.length ≤ 100) {p : List UInt8} (hp : p.length ≤ 100) : FitsN (([97], p, 1, (b, v), (false, []), (false, []), (false, [])) : Atm) := by
  refine ⟨⟨by simp [maxLen], by show p.length ≤ _; unfold maxLen; omega, fun t ht => ?_⟩, by simp, by simp⟩
  simp only [argsL, List.mem_cons, List.not_mem_nil, or_false] at ht
  rcases ht with rfl | rfl | rfl | rfl
  · show v.length ≤ _; unfold maxLen; omega
  · simp [maxLen]
  · simp [maxLen]
  · simp [maxLen]
set_option maxHeartbeats 4000000 in
set_option maxRecDepth 100000 in
theorem lives18_any (w : World) (hE : Env w) : Calls Tryz.prog 4 #[] w fun e w' => e = .returned (.bool true) ∧ Since w w' := by
  have H1 : Hid (∀ W, Calls Tryz.prog 28 #[.string ⟨#[97]⟩, .string ⟨#[112]⟩, .string ⟨#[88]⟩] W fun e w' => e = .returned (.agg #[.string ⟨#[97]⟩, .string ⟨#[112]⟩, .int .i64 1, .bool true, .string ⟨#[88]⟩, .bool false, .string ⟨#[]⟩, .bool false, .string ⟨#[]⟩, .bool false, .string ⟨#[]⟩]) ∧ Since W w') := fun W => of_any [97] [112] [88] W
  have H2 : Hid (∀ W, Calls Tryz.prog 28 #[.string ⟨#[97]⟩, .string ⟨#[112]⟩, .string ⟨#[89]⟩] W fun e w' => e = .returned (.agg #[.string ⟨#[97]⟩, .string ⟨#[112]⟩, .int .i64 1, .bool true, .string ⟨#[89]⟩, .bool false, .string ⟨#[]⟩, .bool false, .string ⟨#[]⟩, .bool false, .string ⟨#[]⟩]) ∧ Since W w') := fun W => of_any [97] [112] [89] W
  have o1 : openS [] (([97], [112], 1, (true, [88]), (false, []), (false, []), (false, [])) : Atm) = (0, true, [((([97], [112], 1, (true, [86, 48]), (false, []), (false, []), (false, [])) : Atm), [], [])]) := by unfold openS; rw [can_of]; rfl
  have o2 : openS [((([97], [112], 1, (true, [86, 48]), (false, []), (false, []), (false, [])) : Atm), [], [])] (([97], [112], 1, (true, [89]), (false, []), (false, []), (false, [])) : Atm) = (0, false, [((([97], [112], 1, (true, [86, 48]), (false, []), (false, []), (false, [])) : Atm), [], [])]) := by unfold openS; rw [can_of]; simp [posF]
  have HO1 : Hid (∀ W B g Z, Tab W B g Z [] → Env W → Calls Tryz.prog 9 #[.pointer (some ⟨g, 0, none⟩), .agg #[.string ⟨#[97]⟩, .string ⟨#[112]⟩, .int .i64 1, .bool true, .string ⟨#[88]⟩, .bool false, .string ⟨#[]⟩, .bool false, .string ⟨#[]⟩, .bool false, .string ⟨#[]⟩]] W fun e w' => e = .returned (.tuple #[.int .i64 0, .bool true, .int .i64 0]) ∧ TOp Z B g W w' [((([97], [112], 1, (true, [86, 48]), (false, []), (false, []), (false, [])) : Atm), [], [])]) :=
    fun W B g Z h hE => topen_t [97] [112] 1 true false false false [88] [] [] [] W h (fits_of _ (by simp) (by simp)) hE (by kernel_rfl) (by simp) o1
  have HO2 : Hid (∀ W B g Z, Tab W B g Z [((([97], [112], 1, (true, [86, 48]), (false, []), (false, []), (false, [])) : Atm), [], [])] → Env W → Calls Tryz.prog 9 #[.pointer (some ⟨g, 0, none⟩), .agg #[.string ⟨#[97]⟩, .string ⟨#[112]⟩, .int .i64 1, .bool true, .string ⟨#[89]⟩, .bool false, .string ⟨#[]⟩, .bool false, .string ⟨#[]⟩, .bool false, .string ⟨#[]⟩]] W fun e w' => e = .returned (.tuple #[.int .i64 0, .bool false, .int .i64 0]) ∧ TOp Z B g W w' [((([97], [112], 1, (true, [86, 48]), (false, []), (false, []), (false, [])) : Atm), [], [])]) :=
    fun W B g Z h hE => topen_t [97] [112] 1 true false false false [89] [] [] [] W h (fits_of _ (by simp) (by simp)) hE (by kernel_rfl) (by simp) o2
  have HE := Lib.hid hE
  clear o1 o2 hE
  go_enter Tryz.func4, Tryz.ntmps4
  go_wp2_with fail
  refine (tnew_t _).mono ?_
  rintro e w1 ⟨g, rfl, ⟨Z, hT⟩, hS⟩
  go_wp2_with fail
  refine (H1.out _).mono ?_
  rintro e w2 ⟨rfl, hb⟩
  replace hS := hS.trans hb
  replace hT := hT.next hb
  clear hb
  go_wp2_with fail
  refine (HO1.out _ _ _ _ hT (HE.out.next hS)).mono ?_
  rintro e w3 ⟨rfl, hO⟩
  replace hS := hT.since hO.keep hS (Nat.le_refl _)
  replace hT := hO.tab
  clear hO
  go_wp2_with fail
  refine (H2.out _).mono ?_
  rintro e w4 ⟨rfl, hb⟩
  replace hS := hS.trans hb
  replace hT := hT.next hb
  clear hb
  go_wp2_with fail
  refine (HO2.out _ _ _ _ hT (HE.out.next hS)).mono ?_
  rintro e w5 ⟨rfl, hO⟩
  replace hS := hT.since hO.keep hS (Nat.le_refl _)
  clear hO hT
  go_wp2_with fail
  go_ret
  exact ⟨rfl, hS⟩
end Go.Proofs.YtbgdljcgbhhfdaaGreatDoor
