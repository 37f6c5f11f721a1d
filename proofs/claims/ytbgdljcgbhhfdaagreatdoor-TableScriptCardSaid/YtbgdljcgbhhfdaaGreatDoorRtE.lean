/- Reference 18: Add. Reference 18: Open: what its long region keeps. Reference 18: Open. The tables' and the reference's operations, each in one form. -/
import Derived.Test.YtbgdljcgbhhfdaaGreatDoorRtA
import Derived.Test.YtbgdljcgbhhfdaaGreatDoorRk5B
import Derived.Test.YtbgdljcgbhhfdaaGreatDoorTabQ
import Derived.Test.YtbgdljcgbhhfdaaGreatDoorInv
namespace Go.Proofs.YtbgdljcgbhhfdaaGreatDoor
open Go.RowKit Go.Maps Go.WideMaps
attribute [local go_sem ↓] run_atomEq
attribute [local go_sem] eqA_self

theorem pos_moreR {l : List Atm} {x : Atm} {q : Nat} (hq : q < l.length) : (posF (l.take (q + 1)) x 0).isSome = ((posF (l.take q) x 0).isSome || eqA l[q] x) := by
  rw [List.take_succ_eq_append_getElem hq, posF_snoc]
  cases posF (l.take q) x 0 with
  | some j => rfl
  | none =>
    by_cases h : l[q] = x
    · rw [if_pos h, h, eqA_self]; rfl
    · rw [if_neg h]
      cases hh : eqA l[q] x with
      | false => rfl
      | true => exact absurd (eqA_iff.1 hh) h
theorem rmatch_flagR (c_s c_p : List UInt8) (c_n : Int) (c_v0 c_v1 c_v2 c_v3 : Bool) (c_l0 c_l1 c_l2 c_l3 : List UInt8) (a_s a_p : List UInt8) (a_n : Int) (a_v0 a_v1 a_v2 a_v3 : Bool) (a_l0 a_l1 a_l2 a_l3 : List UInt8) (kc : checkA ((c_s, c_p, c_n, (c_v0, c_l0), (c_v1, c_l1), (c_v2, c_l2), (c_v3, c_l3)) : Atm) = 0) {r : Bool} (hr : (extH [] ((c_s, c_p, c_n, (c_v0, c_l0), (c_v1, c_l1), (c_v2, c_l2), (c_v3, c_l3)) : Atm) ((a_s, a_p, a_n, (a_v0, a_l0), (a_v1, a_l1), (a_v2, a_l2), (a_v3, a_l3)) : Atm)).isSome = r) (w : World) :
    Calls Tryz.prog 39 #[.agg #[.string ⟨c_s.toArray⟩, .string ⟨c_p.toArray⟩, .int .i64 c_n, .bool c_v0, .string ⟨c_l0.toArray⟩, .bool c_v1, .string ⟨c_l1.toArray⟩, .bool c_v2, .string ⟨c_l2.toArray⟩, .bool c_v3, .string ⟨c_l3.toArray⟩], .agg #[.string ⟨a_s.toArray⟩, .string ⟨a_p.toArray⟩, .int .i64 a_n, .bool a_v0, .string ⟨a_l0.toArray⟩, .bool a_v1, .string ⟨a_l1.toArray⟩, .bool a_v2, .string ⟨a_l2.toArray⟩, .bool a_v3, .string ⟨a_l3.toArray⟩]] w fun e w' => ∃ v, e = .returned (.tuple #[v, .bool r]) ∧ Since w w' := by
  refine (rmatch_all c_s c_p c_n c_v0 c_v1 c_v2 c_v3 c_l0 c_l1 c_l2 c_l3 a_s a_p a_n a_v0 a_v1 a_v2 a_v3 a_l0 a_l1 a_l2 a_l3 kc w).mono ?_
  rintro e w' ⟨v, b, rfl, hb, hm⟩
  refine ⟨v, ?_, hb⟩
  have e : b = r := by
    rw [← hr]
    cases h : extH [] ((c_s, c_p, c_n, (c_v0, c_l0), (c_v1, c_l1), (c_v2, c_l2), (c_v3, c_l3)) : Atm) ((a_s, a_p, a_n, (a_v0, a_l0), (a_v1, a_l1), (a_v2, a_l2), (a_v3, a_l3)) : Atm) with
    | none => rw [h] at hm; exact hm.1
    | some m => rw [h] at hm; exact hm.1
  rw [e]
theorem RefAt.added {W Wa W3 : World} {D r : Nat} {av gv wv : Value} {S : List TCall} {GL : List (List Atm × Value)} {WL : List (List Int × Value)} (h : RefAt W D r av gv wv S GL WL) {i : Nat} (hi : i < S.length) (hiL : i < GL.length) {v' : Value} (x : Atm) {ob : Nat} (hv : gv.ownBlock = some ob) (hs : Since W Wa) (hg : Wa.grownBy W3 (GL[i]).2.ownBlock)
    (hown : W3.ownsRow D 33 11 v' ((GL[i]).1.length + 1) ((GL[i]).1.flatMap atmL ++ (atmC x).toList)) (hat : v'.ownBlock = (GL[i]).2.ownBlock ∨ v'.ownBlock = some Wa.heap.size) :
    ∃ GL', RefAt (W3.setCell ⟨ob, 0 + i, none⟩ v') D r av gv wv (S.set i (addC S[i] x)) GL' WL ∧ (∀ b, RefB r av gv wv GL' WL b → RefB r av gv wv GL WL b ∨ W.heap.size ≤ b) ∧ Keep (RefB r av gv wv GL WL) W (W3.setCell ⟨ob, 0 + i, none⟩ v') := by
  rw [Nat.zero_add]
  have hA := h.next hs
  have hIn := hA.got.inner hiL
  have hmem : GL[i] ∈ GL := List.getElem_mem hiL
  have hput := h.got.put (x := x) (by decide) hs hiL hv hg hown hat
  have g2 : W3.grownBy (W3.setCell ⟨ob, i, none⟩ v') (some ob) := grown_setCell W3 ob i v'
  have hout3 : W3.ownsRow D 48 1 gv GL.length (GL.flatMap fun p => [p.2]) := (Nest.row hA.got).kept hg (own_kind_apart (Nest.row hA.got) hIn (by decide))
  obtain ⟨cur, hC⟩ : ∃ cur, Cel W3 ob cur 48 := by
    rcases hout3.2 with ⟨rfl, _⟩ | ⟨g, cap, cur, rfl, _, h2, _⟩
    · cases hv
    · obtain rfl : g = ob := by injection hv
      exact ⟨cur, h2⟩
  have hrow : (GL[i]).1 = (S[i]).2.1 := by
    have h2 := congrArg (fun l => l[i]?) h.gm
    simp only [List.getElem?_map, List.getElem?_eq_getElem hiL, List.getElem?_eq_getElem hi, Option.map_some] at h2
    injection h2
  have hcel3 : Cel W3 r #[av, gv, wv] 52 := cel_own hA.cel hIn (by decide) hg
  have hcel4 := hcel3.grown g2 (fun e => cel_cel_ne hcel3 hC (by decide) (by injection e))
  have hapA : av.ownBlock = none ∨ av.ownBlock ≠ (GL[i]).2.ownBlock := (h.gapart _ hmem).symm
  have hat3 : W3.ownsRow D 33 11 av S.length ((S.map fun c => c.1).flatMap atmL) := hA.atoms.kept hg hapA
  have hwho3 : WhoAt W3 D wv WL := Nest.own hA.who hIn hg (by decide) (by decide)
  have hwho4 : WhoAt (W3.setCell ⟨ob, i, none⟩ v') D wv WL := Nest.cel hwho3 hC g2 (by decide) (by decide)
  have m1 : (S.set i (addC S[i] x)).map (fun c => c.1) = S.map fun c => c.1 := by
    rw [List.map_set, show (addC S[i] x).1 = (S[i]).1 from rfl]
    have : (S[i]).1 = (S.map fun c => c.1)[i]'(by rw [List.length_map]; exact hi) := by rw [List.getElem_map]
    rw [this, List.set_getElem_self]
  have m2 : (S.set i (addC S[i] x)).map (fun c => c.2.2) = S.map fun c => c.2.2 := by
    rw [List.map_set, show (addC S[i] x).2.2 = (S[i]).2.2 from rfl]
    have : (S[i]).2.2 = (S.map fun c => c.2.2)[i]'(by rw [List.length_map]; exact hi) := by rw [List.getElem_map]
    rw [this, List.set_getElem_self]
  have hk : Keep (RefB r av gv wv GL WL) W (W3.setCell ⟨ob, i, none⟩ v') := by
    refine Keep.of_two hs hg g2 (fun b hb => .inr (.inr (.inl (.inr ⟨_, hmem, hb⟩)))) (fun b hb => ?_)
    injection hb with hb
    exact .inr (.inr (.inl (.inl (by rw [hv, hb]))))
  refine ⟨_, ⟨hcel4, ?_, hput, hwho4, ?_, by rw [m2]; exact h.wm, fun p hp => ?_, h.low⟩, fun b hb => ?_, hk⟩
  · rw [List.length_set, m1]
    exact own_setCell hat3 hC (by decide)
  · rw [List.map_set, List.map_set, h.gm]
    show (S.map fun c => c.2.1).set i ((GL[i]).1 ++ [x]) = (S.map fun c => c.2.1).set i ((S[i]).2.1 ++ [x])
    rw [hrow]
  · rcases List.mem_or_eq_of_mem_set hp with h1 | rfl
    · exact h.gapart p h1
    · rcases hat with e | e
      · have := h.gapart _ hmem
        unfold apartV at this ⊢
        rw [show (((GL[i]).1 ++ [x], v') : List Atm × Value).2 = v' from rfl, e]; exact this
      · unfold apartV
        rw [show (((GL[i]).1 ++ [x], v') : List Atm × Value).2 = v' from rfl, e]
        refine .inr fun e2 => ?_
        have := (hA.atoms.lt _ e2.symm).2
        omega
  · rcases hb with hb | hb | (hb | ⟨p, hp, hb⟩) | hb
    · exact .inl (.inl hb)
    · exact .inl (.inr (.inl hb))
    · exact .inl (.inr (.inr (.inl (.inl hb))))
    · rcases List.mem_or_eq_of_mem_set hp with h1 | rfl
      · exact .inl (.inr (.inr (.inl (.inr ⟨p, h1, hb⟩))))
      · rcases hat with e | e
        · exact .inl (.inr (.inr (.inl (.inr ⟨_, hmem, by rw [← e]; exact hb⟩))))
        · have hb2 : v'.ownBlock = some b := hb
          rw [e] at hb2
          injection hb2 with hb2
          exact .inr (by rw [← hb2]; exact hs.size)
    · exact .inl (.inr (.inr (.inr hb)))
set_option maxHeartbeats 1000000 in
theorem radd_no {D r : Nat} {av gv wv : Value} {S : List TCall} {GL : List (List Atm × Value)} {WL : List (List Int × Value)} (i : Int) (a_s a_p : List UInt8) (a_n : Int) (a_v0 a_v1 a_v2 a_v3 : Bool) (a_l0 a_l1 a_l2 a_l3 : List UInt8) (w : World) (h : RefAt w D r av gv wv S GL WL) (hi : i < 0 ∨ (S.length : Int) ≤ i) :
    Calls Tryz.prog 12 #[.pointer (some ⟨r, 0, none⟩), .int .i64 i, .agg #[.string ⟨a_s.toArray⟩, .string ⟨a_p.toArray⟩, .int .i64 a_n, .bool a_v0, .string ⟨a_l0.toArray⟩, .bool a_v1, .string ⟨a_l1.toArray⟩, .bool a_v2, .string ⟨a_l2.toArray⟩, .bool a_v3, .string ⟨a_l3.toArray⟩]] w fun e w' => e = .returned (.tuple #[.bool false, .int .i64 13]) ∧ Since w w' := by
  have hS : Since w (w.alloc (.cells #[.string ⟨a_s.toArray⟩, .string ⟨a_p.toArray⟩, .int .i64 a_n, .bool a_v0, .string ⟨a_l0.toArray⟩, .bool a_v1, .string ⟨a_l1.toArray⟩, .bool a_v2, .string ⟨a_l2.toArray⟩, .bool a_v3, .string ⟨a_l3.toArray⟩] 33)) := (Since.refl w).alloc _
  have HIS := Lib.hid (ris_no i _ (h.next hS) hi)
  clear h hi
  go_enter Tryz.func12, Tryz.ntmps12
  go_wp2_with fail
  refine HIS.out.mono ?_
  rintro e w2 ⟨rfl, hb⟩
  go_wp2_with fail
  go_ret2
  exact ⟨rfl, hS.trans hb⟩
set_option maxHeartbeats 8000000 in
set_option maxRecDepth 100000 in
theorem radd_bad1 {D r : Nat} {av gv wv : Value} {S : List TCall} {GL : List (List Atm × Value)} {WL : List (List Int × Value)} (i : Nat) (a_s a_p : List UInt8) (a_n : Int) (a_v0 a_v1 a_v2 a_v3 : Bool) (a_l0 a_l1 a_l2 a_l3 : List UInt8) (w : World) (h : RefAt w D r av gv wv S GL WL) (hi : i < S.length) (hf : FitsA ((a_s, a_p, a_n, (a_v0, a_l0), (a_v1, a_l1), (a_v2, a_l2), (a_v3, a_l3)) : Atm)) (hk : ¬ checkA ((a_s, a_p, a_n, (a_v0, a_l0), (a_v1, a_l1), (a_v2, a_l2), (a_v3, a_l3)) : Atm) = 0) :
    Calls Tryz.prog 12 #[.pointer (some ⟨r, 0, none⟩), .int .i64 (i : Int), .agg #[.string ⟨a_s.toArray⟩, .string ⟨a_p.toArray⟩, .int .i64 a_n, .bool a_v0, .string ⟨a_l0.toArray⟩, .bool a_v1, .string ⟨a_l1.toArray⟩, .bool a_v2, .string ⟨a_l2.toArray⟩, .bool a_v3, .string ⟨a_l3.toArray⟩]] w fun e w' => e = .returned (.tuple #[.bool false, .int .i64 2]) ∧ Since w w' := by
  have hS : Since w (w.alloc (.cells #[.string ⟨a_s.toArray⟩, .string ⟨a_p.toArray⟩, .int .i64 a_n, .bool a_v0, .string ⟨a_l0.toArray⟩, .bool a_v1, .string ⟨a_l1.toArray⟩, .bool a_v2, .string ⟨a_l2.toArray⟩, .bool a_v3, .string ⟨a_l3.toArray⟩] 33)) := (Since.refl w).alloc _
  have aB : Box (w.alloc (.cells #[.string ⟨a_s.toArray⟩, .string ⟨a_p.toArray⟩, .int .i64 a_n, .bool a_v0, .string ⟨a_l0.toArray⟩, .bool a_v1, .string ⟨a_l1.toArray⟩, .bool a_v2, .string ⟨a_l2.toArray⟩, .bool a_v3, .string ⟨a_l3.toArray⟩] 33)) w.heap.size ((a_s, a_p, a_n, (a_v0, a_l0), (a_v1, a_l1), (a_v2, a_l2), (a_v3, a_l3)) : Atm) := box_new w ((a_s, a_p, a_n, (a_v0, a_l0), (a_v1, a_l1), (a_v2, a_l2), (a_v3, a_l3)) : Atm) _
  have aA : At (w.alloc (.cells #[.string ⟨a_s.toArray⟩, .string ⟨a_p.toArray⟩, .int .i64 a_n, .bool a_v0, .string ⟨a_l0.toArray⟩, .bool a_v1, .string ⟨a_l1.toArray⟩, .bool a_v2, .string ⟨a_l2.toArray⟩, .bool a_v3, .string ⟨a_l3.toArray⟩] 33)) w.heap.size 0 #[.string ⟨a_s.toArray⟩, .string ⟨a_p.toArray⟩, .int .i64 a_n, .bool a_v0, .string ⟨a_l0.toArray⟩, .bool a_v1, .string ⟨a_l1.toArray⟩, .bool a_v2, .string ⟨a_l2.toArray⟩, .bool a_v3, .string ⟨a_l3.toArray⟩] := Cel.at (heap_alloc_new w _)
  have HIS := Lib.hid (ris_yes i _ (h.next hS) hi)
  have HCK := Lib.hid (fun W => rcheck_any a_s a_p a_n a_v0 a_v1 a_v2 a_v3 a_l0 a_l1 a_l2 a_l3 W hf)
  obtain ⟨k, hk2⟩ : ∃ k, Hid (k = checkA ((a_s, a_p, a_n, (a_v0, a_l0), (a_v1, a_l1), (a_v2, a_l2), (a_v3, a_l3)) : Atm)) := ⟨_, rfl⟩
  rw [← hk2.out] at HCK hk
  have hk3 : (k != (0 : Int)) = true := by simpa using hk
  clear h hi hf hk2
  go_enter Tryz.func12, Tryz.ntmps12
  go_wp2_with fail
  refine HIS.out.mono ?_
  rintro e w2 ⟨rfl, hb⟩
  replace hS := hS.trans hb
  replace aB := aB.next hb
  replace aA := aA.next hb
  clear HIS hb
  obtain ⟨a_c0, a_c1, a_c2, a_c3, a_c4, a_c5, a_c6, a_c7, a_c8, a_c9, a_c10⟩ := aB.all
  go_wp2_with fail
  refine (HCK.out _).mono ?_
  rintro e w3 ⟨rfl, hb⟩
  replace hS := hS.trans hb
  replace aB := aB.next hb
  replace aA := aA.next hb
  clear hb HCK a_c0 a_c1 a_c2 a_c3 a_c4 a_c5 a_c6 a_c7 a_c8 a_c9 a_c10
  go_wp2_with fail
  go_ret2
  exact ⟨rfl, hS⟩
set_option maxHeartbeats 8000000 in
set_option maxRecDepth 100000 in
theorem radd_bad2 {D r : Nat} {av gv wv : Value} {S : List TCall} {GL : List (List Atm × Value)} {WL : List (List Int × Value)} (i : Nat) (a_s a_p : List UInt8) (a_n : Int) (a_v0 a_v1 a_v2 a_v3 : Bool) (a_l0 a_l1 a_l2 a_l3 : List UInt8) (w : World) (h : RefAt w D r av gv wv S GL WL) (hi : i < S.length) (hf : FitsA ((a_s, a_p, a_n, (a_v0, a_l0), (a_v1, a_l1), (a_v2, a_l2), (a_v3, a_l3)) : Atm)) (hk : checkA ((a_s, a_p, a_n, (a_v0, a_l0), (a_v1, a_l1), (a_v2, a_l2), (a_v3, a_l3)) : Atm) = 0) (hgr : groundA ((a_s, a_p, a_n, (a_v0, a_l0), (a_v1, a_l1), (a_v2, a_l2), (a_v3, a_l3)) : Atm) = false) :
    Calls Tryz.prog 12 #[.pointer (some ⟨r, 0, none⟩), .int .i64 (i : Int), .agg #[.string ⟨a_s.toArray⟩, .string ⟨a_p.toArray⟩, .int .i64 a_n, .bool a_v0, .string ⟨a_l0.toArray⟩, .bool a_v1, .string ⟨a_l1.toArray⟩, .bool a_v2, .string ⟨a_l2.toArray⟩, .bool a_v3, .string ⟨a_l3.toArray⟩]] w fun e w' => e = .returned (.tuple #[.bool false, .int .i64 2]) ∧ Since w w' := by
  have hS : Since w (w.alloc (.cells #[.string ⟨a_s.toArray⟩, .string ⟨a_p.toArray⟩, .int .i64 a_n, .bool a_v0, .string ⟨a_l0.toArray⟩, .bool a_v1, .string ⟨a_l1.toArray⟩, .bool a_v2, .string ⟨a_l2.toArray⟩, .bool a_v3, .string ⟨a_l3.toArray⟩] 33)) := (Since.refl w).alloc _
  have aB : Box (w.alloc (.cells #[.string ⟨a_s.toArray⟩, .string ⟨a_p.toArray⟩, .int .i64 a_n, .bool a_v0, .string ⟨a_l0.toArray⟩, .bool a_v1, .string ⟨a_l1.toArray⟩, .bool a_v2, .string ⟨a_l2.toArray⟩, .bool a_v3, .string ⟨a_l3.toArray⟩] 33)) w.heap.size ((a_s, a_p, a_n, (a_v0, a_l0), (a_v1, a_l1), (a_v2, a_l2), (a_v3, a_l3)) : Atm) := box_new w ((a_s, a_p, a_n, (a_v0, a_l0), (a_v1, a_l1), (a_v2, a_l2), (a_v3, a_l3)) : Atm) _
  have aA : At (w.alloc (.cells #[.string ⟨a_s.toArray⟩, .string ⟨a_p.toArray⟩, .int .i64 a_n, .bool a_v0, .string ⟨a_l0.toArray⟩, .bool a_v1, .string ⟨a_l1.toArray⟩, .bool a_v2, .string ⟨a_l2.toArray⟩, .bool a_v3, .string ⟨a_l3.toArray⟩] 33)) w.heap.size 0 #[.string ⟨a_s.toArray⟩, .string ⟨a_p.toArray⟩, .int .i64 a_n, .bool a_v0, .string ⟨a_l0.toArray⟩, .bool a_v1, .string ⟨a_l1.toArray⟩, .bool a_v2, .string ⟨a_l2.toArray⟩, .bool a_v3, .string ⟨a_l3.toArray⟩] := Cel.at (heap_alloc_new w _)
  have HIS := Lib.hid (ris_yes i _ (h.next hS) hi)
  have HCK := Lib.hid (fun W => rcheck_any a_s a_p a_n a_v0 a_v1 a_v2 a_v3 a_l0 a_l1 a_l2 a_l3 W hf)
  have HGR := Lib.hid (fun W => rground_any a_s a_p a_n a_v0 a_v1 a_v2 a_v3 a_l0 a_l1 a_l2 a_l3 W)
  rw [hgr] at HGR
  rw [hk] at HCK
  clear h hi hf hk hgr
  go_enter Tryz.func12, Tryz.ntmps12
  go_wp2_with fail
  refine HIS.out.mono ?_
  rintro e w2 ⟨rfl, hb⟩
  replace hS := hS.trans hb
  replace aB := aB.next hb
  replace aA := aA.next hb
  clear HIS hb
  obtain ⟨a_c0, a_c1, a_c2, a_c3, a_c4, a_c5, a_c6, a_c7, a_c8, a_c9, a_c10⟩ := aB.all
  go_wp2_with fail
  refine (HCK.out _).mono ?_
  rintro e w3 ⟨rfl, hb⟩
  replace hS := hS.trans hb
  replace aB := aB.next hb
  replace aA := aA.next hb
  clear hb HCK a_c0 a_c1 a_c2 a_c3 a_c4 a_c5 a_c6 a_c7 a_c8 a_c9 a_c10
  obtain ⟨a_c0, a_c1, a_c2, a_c3, a_c4, a_c5, a_c6, a_c7, a_c8, a_c9, a_c10⟩ := aB.all
  go_wp2_with fail
  refine (HGR.out _).mono ?_
  rintro e w4 ⟨rfl, hb⟩
  replace hS := hS.trans hb
  replace aA := aA.next hb
  clear hb HGR a_c0 a_c1 a_c2 a_c3 a_c4 a_c5 a_c6 a_c7 a_c8 a_c9 a_c10 aB
  go_wp2_with fail
  go_ret2
  exact ⟨rfl, hS⟩
set_option maxHeartbeats 8000000 in
set_option maxRecDepth 100000 in
theorem radd_bad3 {D r : Nat} {av gv wv : Value} {S : List TCall} {GL : List (List Atm × Value)} {WL : List (List Int × Value)} (i : Nat) (a_s a_p : List UInt8) (a_n : Int) (a_v0 a_v1 a_v2 a_v3 : Bool) (a_l0 a_l1 a_l2 a_l3 : List UInt8) (w : World) (h : RefAt w D r av gv wv S GL WL) (hi : i < S.length) (hf : FitsA ((a_s, a_p, a_n, (a_v0, a_l0), (a_v1, a_l1), (a_v2, a_l2), (a_v3, a_l3)) : Atm)) (hk : checkA ((a_s, a_p, a_n, (a_v0, a_l0), (a_v1, a_l1), (a_v2, a_l2), (a_v3, a_l3)) : Atm) = 0) (hgr : groundA ((a_s, a_p, a_n, (a_v0, a_l0), (a_v1, a_l1), (a_v2, a_l2), (a_v3, a_l3)) : Atm) = true) (hkc : checkA (S[i]).1 = 0) (hx : (extH [] (S[i]).1 ((a_s, a_p, a_n, (a_v0, a_l0), (a_v1, a_l1), (a_v2, a_l2), (a_v3, a_l3)) : Atm)).isSome = false) :
    Calls Tryz.prog 12 #[.pointer (some ⟨r, 0, none⟩), .int .i64 (i : Int), .agg #[.string ⟨a_s.toArray⟩, .string ⟨a_p.toArray⟩, .int .i64 a_n, .bool a_v0, .string ⟨a_l0.toArray⟩, .bool a_v1, .string ⟨a_l1.toArray⟩, .bool a_v2, .string ⟨a_l2.toArray⟩, .bool a_v3, .string ⟨a_l3.toArray⟩]] w fun e w' => e = .returned (.tuple #[.bool false, .int .i64 2]) ∧ Since w w' := by
  have hS : Since w (w.alloc (.cells #[.string ⟨a_s.toArray⟩, .string ⟨a_p.toArray⟩, .int .i64 a_n, .bool a_v0, .string ⟨a_l0.toArray⟩, .bool a_v1, .string ⟨a_l1.toArray⟩, .bool a_v2, .string ⟨a_l2.toArray⟩, .bool a_v3, .string ⟨a_l3.toArray⟩] 33)) := (Since.refl w).alloc _
  have aB : Box (w.alloc (.cells #[.string ⟨a_s.toArray⟩, .string ⟨a_p.toArray⟩, .int .i64 a_n, .bool a_v0, .string ⟨a_l0.toArray⟩, .bool a_v1, .string ⟨a_l1.toArray⟩, .bool a_v2, .string ⟨a_l2.toArray⟩, .bool a_v3, .string ⟨a_l3.toArray⟩] 33)) w.heap.size ((a_s, a_p, a_n, (a_v0, a_l0), (a_v1, a_l1), (a_v2, a_l2), (a_v3, a_l3)) : Atm) := box_new w ((a_s, a_p, a_n, (a_v0, a_l0), (a_v1, a_l1), (a_v2, a_l2), (a_v3, a_l3)) : Atm) _
  have aA : At (w.alloc (.cells #[.string ⟨a_s.toArray⟩, .string ⟨a_p.toArray⟩, .int .i64 a_n, .bool a_v0, .string ⟨a_l0.toArray⟩, .bool a_v1, .string ⟨a_l1.toArray⟩, .bool a_v2, .string ⟨a_l2.toArray⟩, .bool a_v3, .string ⟨a_l3.toArray⟩] 33)) w.heap.size 0 #[.string ⟨a_s.toArray⟩, .string ⟨a_p.toArray⟩, .int .i64 a_n, .bool a_v0, .string ⟨a_l0.toArray⟩, .bool a_v1, .string ⟨a_l1.toArray⟩, .bool a_v2, .string ⟨a_l2.toArray⟩, .bool a_v3, .string ⟨a_l3.toArray⟩] := Cel.at (heap_alloc_new w _)
  have HIS := Lib.hid (ris_yes i _ (h.next hS) hi)
  have HCK := Lib.hid (fun W => rcheck_any a_s a_p a_n a_v0 a_v1 a_v2 a_v3 a_l0 a_l1 a_l2 a_l3 W hf)
  have HGR := Lib.hid (fun W => rground_any a_s a_p a_n a_v0 a_v1 a_v2 a_v3 a_l0 a_l1 a_l2 a_l3 W)
  rw [hgr] at HGR
  rw [hk] at HCK
  have hat := h.atoms
  obtain ⟨P, hP⟩ : ∃ P, Hid (P = S.map fun c => c.1) := ⟨_, rfl⟩
  have hPl : P.length = S.length := by rw [hP.out, List.length_map]
  have hiP : i < P.length := by rw [hPl]; exact hi
  have hx0 : P[i] = (S[i]).1 := by
    have h2 := congrArg (fun l => l[i]?) hP.out
    simp only [List.getElem?_map, List.getElem?_eq_getElem hiP, List.getElem?_eq_getElem hi, Option.map_some] at h2
    injection h2
  rw [← hP.out, ← hPl] at hat
  rw [← hx0] at hx hkc
  obtain ⟨sa, sc, hav⟩ : ∃ a c, av = .slice a P.length c := own_slice hat
  have har := own_arow1 hat
  rw [hav] at har
  obtain ⟨b, ob, e1, hc, hrowA⟩ := har.get (by omega)
  have hd := hrowA i hiP
  obtain ⟨c, hc0⟩ : ∃ c, Hid (c = P[i]) := ⟨P[i], rfl⟩
  rw [← hc0.out] at hd hx hkc
  obtain ⟨c_s, c_p, c_n, ⟨c_v0, c_l0⟩, ⟨c_v1, c_l1⟩, ⟨c_v2, c_l2⟩, ⟨c_v3, c_l3⟩⟩ := c
  have cA0 : At w b (ob + i * 11) #[.string ⟨c_s.toArray⟩, .string ⟨c_p.toArray⟩, .int .i64 c_n, .bool c_v0, .string ⟨c_l0.toArray⟩, .bool c_v1, .string ⟨c_l1.toArray⟩, .bool c_v2, .string ⟨c_l2.toArray⟩, .bool c_v3, .string ⟨c_l3.toArray⟩] := hd
  have rA0 : At w r 0 #[.slice (some ⟨b, ob, none⟩) P.length sc] := At.one (by rw [← e1, ← hav]; exact h.cel.cell 0)
  have HRM := Lib.hid (fun W => rmatch_flagR c_s c_p c_n c_v0 c_v1 c_v2 c_v3 c_l0 c_l1 c_l2 c_l3 a_s a_p a_n a_v0 a_v1 a_v2 a_v3 a_l0 a_l1 a_l2 a_l3 hkc hx W)
  clear h hi hf hk hgr hkc hat hP hPl hx0 hx hav har hrowA hd hc0 hc e1
  go_enter Tryz.func12, Tryz.ntmps12
  go_wp2_with fail
  refine HIS.out.mono ?_
  rintro e w2 ⟨rfl, hb⟩
  replace hS := hS.trans hb
  replace aB := aB.next hb
  replace aA := aA.next hb
  clear HIS hb
  obtain ⟨a_c0, a_c1, a_c2, a_c3, a_c4, a_c5, a_c6, a_c7, a_c8, a_c9, a_c10⟩ := aB.all
  go_wp2_with fail
  refine (HCK.out _).mono ?_
  rintro e w3 ⟨rfl, hb⟩
  replace hS := hS.trans hb
  replace aB := aB.next hb
  replace aA := aA.next hb
  clear hb HCK a_c0 a_c1 a_c2 a_c3 a_c4 a_c5 a_c6 a_c7 a_c8 a_c9 a_c10
  obtain ⟨a_c0, a_c1, a_c2, a_c3, a_c4, a_c5, a_c6, a_c7, a_c8, a_c9, a_c10⟩ := aB.all
  go_wp2_with fail
  refine (HGR.out _).mono ?_
  rintro e w4 ⟨rfl, hb⟩
  replace hS := hS.trans hb
  replace aA := aA.next hb
  clear hb HGR a_c0 a_c1 a_c2 a_c3 a_c4 a_c5 a_c6 a_c7 a_c8 a_c9 a_c10 aB
  have cA := cA0.next hS
  have rA := rA0.next hS
  go_wp2_with fail
  replace hS := hS.trans ((Since.refl w4).drew)
  replace aA := aA.next ((Since.refl w4).drew)
  replace cA := cA.next ((Since.refl w4).drew)
  replace rA := rA.next ((Since.refl w4).drew)
  refine hx_begin (S := fun W => (Since w W) ∧ (At W w.heap.size 0 #[.string ⟨a_s.toArray⟩, .string ⟨a_p.toArray⟩, .int .i64 a_n, .bool a_v0, .string ⟨a_l0.toArray⟩, .bool a_v1, .string ⟨a_l1.toArray⟩, .bool a_v2, .string ⟨a_l2.toArray⟩, .bool a_v3, .string ⟨a_l3.toArray⟩]) ∧ (At W b (ob + i * 11) #[.string ⟨c_s.toArray⟩, .string ⟨c_p.toArray⟩, .int .i64 c_n, .bool c_v0, .string ⟨c_l0.toArray⟩, .bool c_v1, .string ⟨c_l1.toArray⟩, .bool c_v2, .string ⟨c_l2.toArray⟩, .bool c_v3, .string ⟨c_l3.toArray⟩]) ∧ (At W r 0 #[.slice (some ⟨b, ob, none⟩) P.length sc])) (by kernel_rfl) ⟨hS, aA, cA, rA⟩ (by kernel_rfl) (fun _ _ _ _ _ h => h) (fun hns hQ => ?_)
  refine hx_take (i := 0) (oi := _) (v := .pointer (some ⟨r, 0, none⟩)) rfl rfl hns (by kernel_rfl) (by kernel_rfl) hQ (by kernel_rfl) (fun _ _ => by kernel_rfl) ⟨hS, aA, cA, rA⟩ ?_
  refine hx_take (i := 1) (oi := _) (v := .pointer (some ⟨r, 0, none⟩)) rfl rfl hns (by kernel_rfl) (by kernel_rfl) hQ (by kernel_rfl) (fun _ _ => by kernel_rfl) ⟨hS, aA, cA, rA⟩ ?_
  refine hx_take (i := 2) (oi := _) (v := .pointer (some ⟨r, 0, none⟩)) rfl rfl hns (by kernel_rfl) (by kernel_rfl) hQ (by kernel_rfl) (fun _ _ => by kernel_rfl) ⟨hS, aA, cA, rA⟩ ?_
  refine hx_take (i := 3) (oi := _) (v := .slice (some ⟨b, ob, none⟩) P.length sc) rfl rfl hns (by kernel_rfl) (by kernel_rfl) hQ (by kernel_rfl) (fun W hW => ld_one rfl (by kernel_rfl) (by kernel_rfl) W (hW.2.2.2 0 _ rfl)) ⟨hS, aA, cA, rA⟩ ?_
  refine hx_take (i := 4) (oi := _) (v := .int .i64 (i : Int)) rfl rfl hns (by kernel_rfl) (by kernel_rfl) hQ (by kernel_rfl) (fun _ _ => by kernel_rfl) ⟨hS, aA, cA, rA⟩ ?_
  refine hx_take (i := 5) (oi := _) (v := .pointer (some ⟨b, ob + i * 11, none⟩)) rfl rfl hns (by kernel_rfl) (by kernel_rfl) hQ (by kernel_rfl) (fun W _ => ix_sl (n := P.length) (c := sc) (K := 11) rfl (by kernel_rfl) (by kernel_rfl) (by kernel_rfl) rfl hiP W) ⟨hS, aA, cA, rA⟩ ?_
  refine hx_take (i := 6) (oi := _) (v := .agg #[.string ⟨c_s.toArray⟩, .string ⟨c_p.toArray⟩, .int .i64 c_n, .bool c_v0, .string ⟨c_l0.toArray⟩, .bool c_v1, .string ⟨c_l1.toArray⟩, .bool c_v2, .string ⟨c_l2.toArray⟩, .bool c_v3, .string ⟨c_l3.toArray⟩]) rfl rfl hns (by kernel_rfl) (by kernel_rfl) hQ (by kernel_rfl) (fun W hW => ld_at rfl (by kernel_rfl) (by kernel_rfl) (by kernel_rfl) W (hW.2.2.1)) ⟨hS, aA, cA, rA⟩ ?_
  refine hx_take (i := 7) (oi := _) (v := .agg #[.string ⟨a_s.toArray⟩, .string ⟨a_p.toArray⟩, .int .i64 a_n, .bool a_v0, .string ⟨a_l0.toArray⟩, .bool a_v1, .string ⟨a_l1.toArray⟩, .bool a_v2, .string ⟨a_l2.toArray⟩, .bool a_v3, .string ⟨a_l3.toArray⟩]) rfl rfl hns (by kernel_rfl) (by kernel_rfl) hQ (by kernel_rfl) (fun W hW => ld_at rfl (by kernel_rfl) (by kernel_rfl) (by kernel_rfl) W (hW.2.1)) ⟨hS, aA, cA, rA⟩ ?_
  refine hx_call (i := 8) (oi := _) 39 #[.agg #[.string ⟨c_s.toArray⟩, .string ⟨c_p.toArray⟩, .int .i64 c_n, .bool c_v0, .string ⟨c_l0.toArray⟩, .bool c_v1, .string ⟨c_l1.toArray⟩, .bool c_v2, .string ⟨c_l2.toArray⟩, .bool c_v3, .string ⟨c_l3.toArray⟩], .agg #[.string ⟨a_s.toArray⟩, .string ⟨a_p.toArray⟩, .int .i64 a_n, .bool a_v0, .string ⟨a_l0.toArray⟩, .bool a_v1, .string ⟨a_l1.toArray⟩, .bool a_v2, .string ⟨a_l2.toArray⟩, .bool a_v3, .string ⟨a_l3.toArray⟩]] rfl rfl (by kernel_rfl) (by kernel_rfl) (by kernel_rfl) (HRM.out _) ?_
  rintro e wx61 ⟨mv, rfl, hb⟩
  replace hS := hS.trans hb
  replace aA := aA.next hb
  replace cA := cA.next hb
  replace rA := rA.next hb
  clear hb
  refine ⟨_, rfl, ⟨hS, aA, cA, rA⟩, ?_⟩
  refine hx_take (i := 9) (oi := _) (v := .tuple #[mv, .bool false]) rfl rfl hns (by kernel_rfl) (by kernel_rfl) hQ (by kernel_rfl) (fun _ _ => by kernel_rfl) ⟨hS, aA, cA, rA⟩ ?_
  refine hx_take (i := 10) (oi := _) (v := mv) rfl rfl hns (by kernel_rfl) (by kernel_rfl) hQ (by kernel_rfl) (fun _ _ => by kernel_rfl) ⟨hS, aA, cA, rA⟩ ?_
  refine hx_take (i := 11) (oi := _) (v := .bool false) rfl rfl hns (by kernel_rfl) (by kernel_rfl) hQ (by kernel_rfl) (fun _ _ => by kernel_rfl) ⟨hS, aA, cA, rA⟩ ?_
  refine hx_take (i := 12) (oi := _) (v := mv) rfl rfl hns (by kernel_rfl) (by kernel_rfl) hQ (by kernel_rfl) (fun _ _ => by kernel_rfl) ⟨hS, aA, cA, rA⟩ ?_
  refine hx_take (i := 13) (oi := _) (v := .bool false) rfl rfl hns (by kernel_rfl) (by kernel_rfl) hQ (by kernel_rfl) (fun _ _ => by kernel_rfl) ⟨hS, aA, cA, rA⟩ ?_
  refine wpAnyH_done (by kernel_rfl) ?_ _
  clear hns hQ
  simp only [List.set_cons_zero, List.set_cons_succ]
  clear cA rA
  go_wp2_with fail
  go_ret2
  exact ⟨rfl, hS⟩
set_option maxHeartbeats 8000000 in
set_option maxRecDepth 100000 in
theorem radd_yes {D r : Nat} {av gv wv : Value} {S : List TCall} {GL : List (List Atm × Value)} {WL : List (List Int × Value)} (i : Nat) (a_s a_p : List UInt8) (a_n : Int) (a_v0 a_v1 a_v2 a_v3 : Bool) (a_l0 a_l1 a_l2 a_l3 : List UInt8) (w : World) (h : RefAt w D r av gv wv S GL WL) (hi : i < S.length) (hf : FitsA ((a_s, a_p, a_n, (a_v0, a_l0), (a_v1, a_l1), (a_v2, a_l2), (a_v3, a_l3)) : Atm)) (hk : checkA ((a_s, a_p, a_n, (a_v0, a_l0), (a_v1, a_l1), (a_v2, a_l2), (a_v3, a_l3)) : Atm) = 0) (hgr : groundA ((a_s, a_p, a_n, (a_v0, a_l0), (a_v1, a_l1), (a_v2, a_l2), (a_v3, a_l3)) : Atm) = true) (hkc : checkA (S[i]).1 = 0) (hx : (extH [] (S[i]).1 ((a_s, a_p, a_n, (a_v0, a_l0), (a_v1, a_l1), (a_v2, a_l2), (a_v3, a_l3)) : Atm)).isSome = true) (hl : (S[i]).2.1.length < 100000) (hD : D ≤ w.heap.size) :
    Calls Tryz.prog 12 #[.pointer (some ⟨r, 0, none⟩), .int .i64 (i : Int), .agg #[.string ⟨a_s.toArray⟩, .string ⟨a_p.toArray⟩, .int .i64 a_n, .bool a_v0, .string ⟨a_l0.toArray⟩, .bool a_v1, .string ⟨a_l1.toArray⟩, .bool a_v2, .string ⟨a_l2.toArray⟩, .bool a_v3, .string ⟨a_l3.toArray⟩]] w fun e w' => (((a_s, a_p, a_n, (a_v0, a_l0), (a_v1, a_l1), (a_v2, a_l2), (a_v3, a_l3)) : Atm) ∈ (S[i]).2.1 ∧ e = .returned (.tuple #[.bool false, .int .i64 0]) ∧ Since w w') ∨ (¬ ((a_s, a_p, a_n, (a_v0, a_l0), (a_v1, a_l1), (a_v2, a_l2), (a_v3, a_l3)) : Atm) ∈ (S[i]).2.1 ∧ e = .returned (.tuple #[.bool true, .int .i64 0]) ∧ ∃ GL', RefAt w' D r av gv wv (S.set i (addC S[i] ((a_s, a_p, a_n, (a_v0, a_l0), (a_v1, a_l1), (a_v2, a_l2), (a_v3, a_l3)) : Atm))) GL' WL ∧ (∀ b, RefB r av gv wv GL' WL b → RefB r av gv wv GL WL b ∨ w.heap.size ≤ b) ∧ Keep (RefB r av gv wv GL WL) w w') := by
  have hS : Since w (w.alloc (.cells #[.string ⟨a_s.toArray⟩, .string ⟨a_p.toArray⟩, .int .i64 a_n, .bool a_v0, .string ⟨a_l0.toArray⟩, .bool a_v1, .string ⟨a_l1.toArray⟩, .bool a_v2, .string ⟨a_l2.toArray⟩, .bool a_v3, .string ⟨a_l3.toArray⟩] 33)) := (Since.refl w).alloc _
  have aB : Box (w.alloc (.cells #[.string ⟨a_s.toArray⟩, .string ⟨a_p.toArray⟩, .int .i64 a_n, .bool a_v0, .string ⟨a_l0.toArray⟩, .bool a_v1, .string ⟨a_l1.toArray⟩, .bool a_v2, .string ⟨a_l2.toArray⟩, .bool a_v3, .string ⟨a_l3.toArray⟩] 33)) w.heap.size ((a_s, a_p, a_n, (a_v0, a_l0), (a_v1, a_l1), (a_v2, a_l2), (a_v3, a_l3)) : Atm) := box_new w ((a_s, a_p, a_n, (a_v0, a_l0), (a_v1, a_l1), (a_v2, a_l2), (a_v3, a_l3)) : Atm) _
  have aA : At (w.alloc (.cells #[.string ⟨a_s.toArray⟩, .string ⟨a_p.toArray⟩, .int .i64 a_n, .bool a_v0, .string ⟨a_l0.toArray⟩, .bool a_v1, .string ⟨a_l1.toArray⟩, .bool a_v2, .string ⟨a_l2.toArray⟩, .bool a_v3, .string ⟨a_l3.toArray⟩] 33)) w.heap.size 0 #[.string ⟨a_s.toArray⟩, .string ⟨a_p.toArray⟩, .int .i64 a_n, .bool a_v0, .string ⟨a_l0.toArray⟩, .bool a_v1, .string ⟨a_l1.toArray⟩, .bool a_v2, .string ⟨a_l2.toArray⟩, .bool a_v3, .string ⟨a_l3.toArray⟩] := Cel.at (heap_alloc_new w _)
  have HIS := Lib.hid (ris_yes i _ (h.next hS) hi)
  have HCK := Lib.hid (fun W => rcheck_any a_s a_p a_n a_v0 a_v1 a_v2 a_v3 a_l0 a_l1 a_l2 a_l3 W hf)
  have HGR := Lib.hid (fun W => rground_any a_s a_p a_n a_v0 a_v1 a_v2 a_v3 a_l0 a_l1 a_l2 a_l3 W)
  rw [hgr] at HGR
  rw [hk] at HCK
  have hat := h.atoms
  obtain ⟨P, hP⟩ : ∃ P, Hid (P = S.map fun c => c.1) := ⟨_, rfl⟩
  have hPl : P.length = S.length := by rw [hP.out, List.length_map]
  have hiP : i < P.length := by rw [hPl]; exact hi
  have hx0 : P[i] = (S[i]).1 := by
    have h2 := congrArg (fun l => l[i]?) hP.out
    simp only [List.getElem?_map, List.getElem?_eq_getElem hiP, List.getElem?_eq_getElem hi, Option.map_some] at h2
    injection h2
  rw [← hP.out, ← hPl] at hat
  rw [← hx0] at hx hkc
  obtain ⟨sa, sc, hav⟩ : ∃ a c, av = .slice a P.length c := own_slice hat
  have har := own_arow1 hat
  rw [hav] at har
  obtain ⟨b, ob, e1, hc, hrowA⟩ := har.get (by omega)
  have hd := hrowA i hiP
  obtain ⟨c, hc0⟩ : ∃ c, Hid (c = P[i]) := ⟨P[i], rfl⟩
  rw [← hc0.out] at hd hx hkc
  obtain ⟨c_s, c_p, c_n, ⟨c_v0, c_l0⟩, ⟨c_v1, c_l1⟩, ⟨c_v2, c_l2⟩, ⟨c_v3, c_l3⟩⟩ := c
  have cA0 : At w b (ob + i * 11) #[.string ⟨c_s.toArray⟩, .string ⟨c_p.toArray⟩, .int .i64 c_n, .bool c_v0, .string ⟨c_l0.toArray⟩, .bool c_v1, .string ⟨c_l1.toArray⟩, .bool c_v2, .string ⟨c_l2.toArray⟩, .bool c_v3, .string ⟨c_l3.toArray⟩] := hd
  have rA0 : At w r 0 #[.slice (some ⟨b, ob, none⟩) P.length sc] := At.one (by rw [← e1, ← hav]; exact h.cel.cell 0)
  have HRM := Lib.hid (fun W => rmatch_flagR c_s c_p c_n c_v0 c_v1 c_v2 c_v3 c_l0 c_l1 c_l2 c_l3 a_s a_p a_n a_v0 a_v1 a_v2 a_v3 a_l0 a_l1 a_l2 a_l3 hkc hx W)
  have hiL : i < GL.length := by rw [h.glen]; exact hi
  obtain ⟨gb, gcap, cur, f1, f2, f3, f4⟩ := h.got.at hiL
  have hrow : (GL[i]).1 = (S[i]).2.1 := by
    have h2 := congrArg (fun l => l[i]?) h.gm
    simp only [List.getElem?_map, List.getElem?_eq_getElem hiL, List.getElem?_eq_getElem hi, Option.map_some] at h2
    injection h2
  have hin := h.got.inner hiL
  have hvb : gv.ownBlock = some gb := by rw [f1]; rfl
  have HWD : Hid (∀ (Wa W3 : World) (v' : Value), Since w Wa → Wa.grownBy W3 (GL[i]).2.ownBlock → W3.ownsRow D 33 11 v' ((GL[i]).1.length + 1) ((GL[i]).1.flatMap atmL ++ (atmC ((a_s, a_p, a_n, (a_v0, a_l0), (a_v1, a_l1), (a_v2, a_l2), (a_v3, a_l3)) : Atm)).toList) → (v'.ownBlock = (GL[i]).2.ownBlock ∨ v'.ownBlock = some Wa.heap.size) → ∃ GL', RefAt (W3.setCell ⟨gb, 0 + i, none⟩ v') D r av gv wv (S.set i (addC S[i] ((a_s, a_p, a_n, (a_v0, a_l0), (a_v1, a_l1), (a_v2, a_l2), (a_v3, a_l3)) : Atm))) GL' WL ∧ (∀ b, RefB r av gv wv GL' WL b → RefB r av gv wv GL WL b ∨ w.heap.size ≤ b) ∧ Keep (RefB r av gv wv GL WL) w (W3.setCell ⟨gb, 0 + i, none⟩ v')) :=
    fun Wa W3 v' y1 y2 y4 y5 => h.added hi hiL ((a_s, a_p, a_n, (a_v0, a_l0), (a_v1, a_l1), (a_v2, a_l2), (a_v3, a_l3)) : Atm) hvb y1 y2 y4 y5
  have rG0 : At w r 1 #[gv] := At.one (h.cel.cell 1)
  have HRG : Hid (some r ≠ some gb) := fun e => cel_cel_ne h.cel f3 (by decide) (by injection e)
  have HRN : Hid (∀ (W : World) (xs : List Value), Since w W → W.ownsRow D 33 11 (GL[i]).2 (GL[i]).1.length xs → some r ≠ (GL[i]).2.ownBlock) := fun W xs hs hr => cel_own_ne (h.cel.next hs) hr (by decide)
  have HLT : Hid (∀ b, (GL[i]).2.ownBlock = some b → b < w.heap.size) := fun b hb => (hin.lt b hb).2
  have HGB : Hid (gb < w.heap.size) := f3.lt
  obtain ⟨Q, hQ⟩ : ∃ Q : World → Prop, Hid (Q = fun w' => ∃ GL', RefAt w' D r av gv wv (S.set i (addC S[i] ((a_s, a_p, a_n, (a_v0, a_l0), (a_v1, a_l1), (a_v2, a_l2), (a_v3, a_l3)) : Atm))) GL' WL ∧ (∀ b, RefB r av gv wv GL' WL b → RefB r av gv wv GL WL b ∨ w.heap.size ≤ b) ∧ Keep (RefB r av gv wv GL WL) w w') := ⟨fun w' => ∃ GL', RefAt w' D r av gv wv (S.set i (addC S[i] ((a_s, a_p, a_n, (a_v0, a_l0), (a_v1, a_l1), (a_v2, a_l2), (a_v3, a_l3)) : Atm))) GL' WL ∧ (∀ b, RefB r av gv wv GL' WL b → RefB r av gv wv GL WL b ∨ w.heap.size ≤ b) ∧ Keep (RefB r av gv wv GL WL) w w', rfl⟩
  have hQ2 : ∀ w', (∃ GL', RefAt w' D r av gv wv (S.set i (addC S[i] ((a_s, a_p, a_n, (a_v0, a_l0), (a_v1, a_l1), (a_v2, a_l2), (a_v3, a_l3)) : Atm))) GL' WL ∧ (∀ b, RefB r av gv wv GL' WL b → RefB r av gv wv GL WL b ∨ w.heap.size ≤ b) ∧ Keep (RefB r av gv wv GL WL) w w') = Q w' := fun w' => by rw [hQ.out]
  simp only [hQ2] at HWD ⊢
  clear hQ hQ2 hvb
  rw [f1] at rG0
  rw [← hrow] at hl ⊢
  obtain ⟨L, hL⟩ : ∃ L, Hid (L = (GL[i]).1) := ⟨(GL[i]).1, rfl⟩
  obtain ⟨u, hu⟩ : ∃ u, Hid (u = (GL[i]).2) := ⟨(GL[i]).2, rfl⟩
  rw [← hL.out] at hl ⊢
  rw [← hL.out, ← hu.out] at hin
  simp only [← hL.out, ← hu.out] at HWD HRN HLT
  rw [← hu.out] at f4
  obtain ⟨n, hn⟩ : ∃ n, Hid (n = GL.length) := ⟨_, rfl⟩
  rw [← hn.out] at rG0 hiL
  clear h hi hf hk hgr hkc hat hP hPl hx0 hx hav har hrowA hd hc0 hc e1 hL hu hn hrow f1
  obtain ⟨ra, rc, rfl⟩ : ∃ a c, u = .slice a L.length c := own_slice hin
  have HIR := Lib.hid (own_arow1 hin)
  have HO := Lib.hid hin
  have HC := Lib.hid f3
  have HE4 : Hid ((cur[0 + i]?).isSome = true) := by show _ = _; rw [Nat.zero_add, f4]; rfl
  have tA0 : At w gb (0 + i) #[.slice ra L.length rc] := At.one (by rw [Nat.zero_add]; exact (f3.cell i).trans f4)
  have hi1 : (i : Int) < (n : Int) := by omega
  have hi2 : (0 : Int) ≤ (i : Int) := by omega
  obtain ⟨i5, hi5, hz0, hz1, hz2⟩ := info_parts own_atm_info
  have I5 := Lib.hid (And.intro hi5 (And.intro hz0 (And.intro hz1 hz2)))
  clear hin f2 f3 f4 hi5 hz0 hz1 hz2
  go_enter Tryz.func12, Tryz.ntmps12
  go_wp2_with fail
  refine HIS.out.mono ?_
  rintro e w2 ⟨rfl, hb⟩
  replace hS := hS.trans hb
  replace aB := aB.next hb
  replace aA := aA.next hb
  clear HIS hb
  obtain ⟨a_c0, a_c1, a_c2, a_c3, a_c4, a_c5, a_c6, a_c7, a_c8, a_c9, a_c10⟩ := aB.all
  go_wp2_with fail
  refine (HCK.out _).mono ?_
  rintro e w3 ⟨rfl, hb⟩
  replace hS := hS.trans hb
  replace aB := aB.next hb
  replace aA := aA.next hb
  clear hb HCK a_c0 a_c1 a_c2 a_c3 a_c4 a_c5 a_c6 a_c7 a_c8 a_c9 a_c10
  obtain ⟨a_c0, a_c1, a_c2, a_c3, a_c4, a_c5, a_c6, a_c7, a_c8, a_c9, a_c10⟩ := aB.all
  go_wp2_with fail
  refine (HGR.out _).mono ?_
  rintro e w4 ⟨rfl, hb⟩
  replace hS := hS.trans hb
  replace aA := aA.next hb
  clear hb HGR a_c0 a_c1 a_c2 a_c3 a_c4 a_c5 a_c6 a_c7 a_c8 a_c9 a_c10 aB
  have cA := cA0.next hS
  have rA := rA0.next hS
  go_wp2_with fail
  replace hS := hS.trans ((Since.refl w4).drew)
  replace aA := aA.next ((Since.refl w4).drew)
  replace cA := cA.next ((Since.refl w4).drew)
  replace rA := rA.next ((Since.refl w4).drew)
  refine hx_begin (S := fun W => (Since w W) ∧ (At W w.heap.size 0 #[.string ⟨a_s.toArray⟩, .string ⟨a_p.toArray⟩, .int .i64 a_n, .bool a_v0, .string ⟨a_l0.toArray⟩, .bool a_v1, .string ⟨a_l1.toArray⟩, .bool a_v2, .string ⟨a_l2.toArray⟩, .bool a_v3, .string ⟨a_l3.toArray⟩]) ∧ (At W b (ob + i * 11) #[.string ⟨c_s.toArray⟩, .string ⟨c_p.toArray⟩, .int .i64 c_n, .bool c_v0, .string ⟨c_l0.toArray⟩, .bool c_v1, .string ⟨c_l1.toArray⟩, .bool c_v2, .string ⟨c_l2.toArray⟩, .bool c_v3, .string ⟨c_l3.toArray⟩]) ∧ (At W r 0 #[.slice (some ⟨b, ob, none⟩) P.length sc])) (by kernel_rfl) ⟨hS, aA, cA, rA⟩ (by kernel_rfl) (fun _ _ _ _ _ h => h) (fun hns hQ => ?_)
  refine hx_take (i := 0) (oi := _) (v := .pointer (some ⟨r, 0, none⟩)) rfl rfl hns (by kernel_rfl) (by kernel_rfl) hQ (by kernel_rfl) (fun _ _ => by kernel_rfl) ⟨hS, aA, cA, rA⟩ ?_
  refine hx_take (i := 1) (oi := _) (v := .pointer (some ⟨r, 0, none⟩)) rfl rfl hns (by kernel_rfl) (by kernel_rfl) hQ (by kernel_rfl) (fun _ _ => by kernel_rfl) ⟨hS, aA, cA, rA⟩ ?_
  refine hx_take (i := 2) (oi := _) (v := .pointer (some ⟨r, 0, none⟩)) rfl rfl hns (by kernel_rfl) (by kernel_rfl) hQ (by kernel_rfl) (fun _ _ => by kernel_rfl) ⟨hS, aA, cA, rA⟩ ?_
  refine hx_take (i := 3) (oi := _) (v := .slice (some ⟨b, ob, none⟩) P.length sc) rfl rfl hns (by kernel_rfl) (by kernel_rfl) hQ (by kernel_rfl) (fun W hW => ld_one rfl (by kernel_rfl) (by kernel_rfl) W (hW.2.2.2 0 _ rfl)) ⟨hS, aA, cA, rA⟩ ?_
  refine hx_take (i := 4) (oi := _) (v := .int .i64 (i : Int)) rfl rfl hns (by kernel_rfl) (by kernel_rfl) hQ (by kernel_rfl) (fun _ _ => by kernel_rfl) ⟨hS, aA, cA, rA⟩ ?_
  refine hx_take (i := 5) (oi := _) (v := .pointer (some ⟨b, ob + i * 11, none⟩)) rfl rfl hns (by kernel_rfl) (by kernel_rfl) hQ (by kernel_rfl) (fun W _ => ix_sl (n := P.length) (c := sc) (K := 11) rfl (by kernel_rfl) (by kernel_rfl) (by kernel_rfl) rfl hiP W) ⟨hS, aA, cA, rA⟩ ?_
  refine hx_take (i := 6) (oi := _) (v := .agg #[.string ⟨c_s.toArray⟩, .string ⟨c_p.toArray⟩, .int .i64 c_n, .bool c_v0, .string ⟨c_l0.toArray⟩, .bool c_v1, .string ⟨c_l1.toArray⟩, .bool c_v2, .string ⟨c_l2.toArray⟩, .bool c_v3, .string ⟨c_l3.toArray⟩]) rfl rfl hns (by kernel_rfl) (by kernel_rfl) hQ (by kernel_rfl) (fun W hW => ld_at rfl (by kernel_rfl) (by kernel_rfl) (by kernel_rfl) W (hW.2.2.1)) ⟨hS, aA, cA, rA⟩ ?_
  refine hx_take (i := 7) (oi := _) (v := .agg #[.string ⟨a_s.toArray⟩, .string ⟨a_p.toArray⟩, .int .i64 a_n, .bool a_v0, .string ⟨a_l0.toArray⟩, .bool a_v1, .string ⟨a_l1.toArray⟩, .bool a_v2, .string ⟨a_l2.toArray⟩, .bool a_v3, .string ⟨a_l3.toArray⟩]) rfl rfl hns (by kernel_rfl) (by kernel_rfl) hQ (by kernel_rfl) (fun W hW => ld_at rfl (by kernel_rfl) (by kernel_rfl) (by kernel_rfl) W (hW.2.1)) ⟨hS, aA, cA, rA⟩ ?_
  refine hx_call (i := 8) (oi := _) 39 #[.agg #[.string ⟨c_s.toArray⟩, .string ⟨c_p.toArray⟩, .int .i64 c_n, .bool c_v0, .string ⟨c_l0.toArray⟩, .bool c_v1, .string ⟨c_l1.toArray⟩, .bool c_v2, .string ⟨c_l2.toArray⟩, .bool c_v3, .string ⟨c_l3.toArray⟩], .agg #[.string ⟨a_s.toArray⟩, .string ⟨a_p.toArray⟩, .int .i64 a_n, .bool a_v0, .string ⟨a_l0.toArray⟩, .bool a_v1, .string ⟨a_l1.toArray⟩, .bool a_v2, .string ⟨a_l2.toArray⟩, .bool a_v3, .string ⟨a_l3.toArray⟩]] rfl rfl (by kernel_rfl) (by kernel_rfl) (by kernel_rfl) (HRM.out _) ?_
  rintro e wx61 ⟨mv, rfl, hb⟩
  replace hS := hS.trans hb
  replace aA := aA.next hb
  replace cA := cA.next hb
  replace rA := rA.next hb
  clear hb
  refine ⟨_, rfl, ⟨hS, aA, cA, rA⟩, ?_⟩
  refine hx_take (i := 9) (oi := _) (v := .tuple #[mv, .bool true]) rfl rfl hns (by kernel_rfl) (by kernel_rfl) hQ (by kernel_rfl) (fun _ _ => by kernel_rfl) ⟨hS, aA, cA, rA⟩ ?_
  refine hx_take (i := 10) (oi := _) (v := mv) rfl rfl hns (by kernel_rfl) (by kernel_rfl) hQ (by kernel_rfl) (fun _ _ => by kernel_rfl) ⟨hS, aA, cA, rA⟩ ?_
  refine hx_take (i := 11) (oi := _) (v := .bool true) rfl rfl hns (by kernel_rfl) (by kernel_rfl) hQ (by kernel_rfl) (fun _ _ => by kernel_rfl) ⟨hS, aA, cA, rA⟩ ?_
  refine hx_take (i := 12) (oi := _) (v := mv) rfl rfl hns (by kernel_rfl) (by kernel_rfl) hQ (by kernel_rfl) (fun _ _ => by kernel_rfl) ⟨hS, aA, cA, rA⟩ ?_
  refine hx_take (i := 13) (oi := _) (v := .bool true) rfl rfl hns (by kernel_rfl) (by kernel_rfl) hQ (by kernel_rfl) (fun _ _ => by kernel_rfl) ⟨hS, aA, cA, rA⟩ ?_
  refine wpAnyH_done (by kernel_rfl) ?_ _
  clear hns hQ
  simp only [List.set_cons_zero, List.set_cons_succ]
  clear cA rA
  have HAA := Lib.hid aA
  obtain ⟨w5, hw5⟩ : ∃ x, Hid (wx61 = x) := ⟨_, rfl⟩
  rw [hw5.out] at hS HAA
  rw [hw5.out]
  clear hw5 aA
  go_wp2_with fail
  go_loopw [10] (fun m wr => ∃ j : Nat, j ≤ L.length ∧ m = .int .i64 (j : Int) ∧ Since w5 wr ∧ Hid ((posF (L.take j) ((a_s, a_p, a_n, (a_v0, a_l0), (a_v1, a_l1), (a_v2, a_l2), (a_v3, a_l3)) : Atm) 0).isSome = false)) (fun m _ => L.length - (intOf m).toNat)
  case atStart => exact ⟨0, Nat.zero_le _, rfl, Since.refl _, rfl⟩
  case round =>
  rename World => w6
  obtain ⟨j, hj, rfl, hS6, hno⟩ := hrel
  have hSw := hS.trans hS6
  have r6 : w6.cell? ⟨r, 1, none⟩ = some (.slice (some ⟨gb, 0, none⟩) n gcap) := (rG0.next hSw) 0 _ rfl
  have c6 : w6.cell? ⟨gb, i, none⟩ = some (.slice ra L.length rc) := by have := (tA0.next hSw) 0 _ rfl; rw [Nat.zero_add] at this; exact this
  by_cases hlt : j < L.length
  · have hlt2 : (j : Int) < (L.length : Int) := by omega
    have hlt0 : (0 : Int) ≤ (j : Int) := by omega
    have hpm := pos_moreR (x := ((a_s, a_p, a_n, (a_v0, a_l0), (a_v1, a_l1), (a_v2, a_l2), (a_v3, a_l3)) : Atm)) hlt
    rw [hno.out] at hpm
    have HPM := Lib.hid hpm
    obtain ⟨rb, ro, er, hcr, hatr⟩ := HIR.out.get (by omega)
    have t1 := hatr j hlt
    obtain ⟨⟨z_s, z_p, z_n, ⟨z_v0, z_l0⟩, ⟨z_v1, z_l1⟩, ⟨z_v2, z_l2⟩, ⟨z_v3, z_l3⟩⟩, hzq⟩ : ∃ z, Hid (z = L[j]) := ⟨L[j], rfl⟩
    rw [← hzq.out] at t1 HPM
    have zA0 : At w rb (ro + j * 11) #[.string ⟨z_s.toArray⟩, .string ⟨z_p.toArray⟩, .int .i64 z_n, .bool z_v0, .string ⟨z_l0.toArray⟩, .bool z_v1, .string ⟨z_l1.toArray⟩, .bool z_v2, .string ⟨z_l2.toArray⟩, .bool z_v3, .string ⟨z_l3.toArray⟩] := t1
    have HIN : Hid (eqA ((z_s, z_p, z_n, (z_v0, z_l0), (z_v1, z_l1), (z_v2, z_l2), (z_v3, z_l3)) : Atm) ((a_s, a_p, a_n, (a_v0, a_l0), (a_v1, a_l1), (a_v2, a_l2), (a_v3, a_l3)) : Atm) = true → ((a_s, a_p, a_n, (a_v0, a_l0), (a_v1, a_l1), (a_v2, a_l2), (a_v3, a_l3)) : Atm) ∈ L) := fun e => by rw [← eqA_iff.1 e, hzq.out]; exact List.getElem_mem hlt
    subst er
    clear hatr t1 hpm
    go_wp2_with fail
    have zA := zA0.next hSw
    have rG := rG0.next hSw
    have tA := tA0.next hSw
    have aA := HAA.out.next hS6
    clear r6 c6
    cases hq9 : eqA ((z_s, z_p, z_n, (z_v0, z_l0), (z_v1, z_l1), (z_v2, z_l2), (z_v3, z_l3)) : Atm) ((a_s, a_p, a_n, (a_v0, a_l0), (a_v1, a_l1), (a_v2, a_l2), (a_v3, a_l3)) : Atm)
    case false =>
      replace hS6 := hS6.trans ((Since.refl w6).drew)
      replace zA := zA.next ((Since.refl w6).drew)
      replace rG := rG.next ((Since.refl w6).drew)
      replace tA := tA.next ((Since.refl w6).drew)
      replace aA := aA.next ((Since.refl w6).drew)
      refine hx_begin (S := fun W => (Since w5 W) ∧ (At W rb (ro + j * 11) #[.string ⟨z_s.toArray⟩, .string ⟨z_p.toArray⟩, .int .i64 z_n, .bool z_v0, .string ⟨z_l0.toArray⟩, .bool z_v1, .string ⟨z_l1.toArray⟩, .bool z_v2, .string ⟨z_l2.toArray⟩, .bool z_v3, .string ⟨z_l3.toArray⟩]) ∧ (At W r 1 #[.slice (some ⟨gb, 0, none⟩) n gcap]) ∧ (At W gb (0 + i) #[.slice (some ⟨rb, ro, none⟩) L.length rc]) ∧ (At W w.heap.size 0 #[.string ⟨a_s.toArray⟩, .string ⟨a_p.toArray⟩, .int .i64 a_n, .bool a_v0, .string ⟨a_l0.toArray⟩, .bool a_v1, .string ⟨a_l1.toArray⟩, .bool a_v2, .string ⟨a_l2.toArray⟩, .bool a_v3, .string ⟨a_l3.toArray⟩])) (by kernel_rfl) ⟨hS6, zA, rG, tA, aA⟩ (by kernel_rfl) (fun _ _ _ _ _ h => h) (fun hns hQ => ?_)
      refine hx_take (i := 0) (oi := _) (v := .pointer (some ⟨r, 0, none⟩)) rfl rfl hns (by kernel_rfl) (by kernel_rfl) hQ (by kernel_rfl) (fun _ _ => by kernel_rfl) ⟨hS6, zA, rG, tA, aA⟩ ?_
      refine hx_take (i := 1) (oi := _) (v := .pointer (some ⟨r, 0, none⟩)) rfl rfl hns (by kernel_rfl) (by kernel_rfl) hQ (by kernel_rfl) (fun _ _ => by kernel_rfl) ⟨hS6, zA, rG, tA, aA⟩ ?_
      refine hx_take (i := 2) (oi := _) (v := .pointer (some ⟨r, 1, none⟩)) rfl rfl hns (by kernel_rfl) (by kernel_rfl) hQ (by kernel_rfl) (fun _ _ => by kernel_rfl) ⟨hS6, zA, rG, tA, aA⟩ ?_
      refine hx_take (i := 3) (oi := _) (v := .slice (some ⟨gb, 0, none⟩) n gcap) rfl rfl hns (by kernel_rfl) (by kernel_rfl) hQ (by kernel_rfl) (fun W hW => ld_one rfl (by kernel_rfl) (by kernel_rfl) W (hW.2.2.1 0 _ rfl)) ⟨hS6, zA, rG, tA, aA⟩ ?_
      refine hx_take (i := 4) (oi := _) (v := .int .i64 (i : Int)) rfl rfl hns (by kernel_rfl) (by kernel_rfl) hQ (by kernel_rfl) (fun _ _ => by kernel_rfl) ⟨hS6, zA, rG, tA, aA⟩ ?_
      refine hx_take (i := 5) (oi := _) (v := .pointer (some ⟨gb, 0 + i, none⟩)) rfl rfl hns (by kernel_rfl) (by kernel_rfl) hQ (by kernel_rfl) (fun W _ => ix_sl1 (n := n) (c := gcap) rfl (by kernel_rfl) (by kernel_rfl) (by kernel_rfl) rfl hiL W) ⟨hS6, zA, rG, tA, aA⟩ ?_
      refine hx_take (i := 6) (oi := _) (v := .slice (some ⟨rb, ro, none⟩) L.length rc) rfl rfl hns (by kernel_rfl) (by kernel_rfl) hQ (by kernel_rfl) (fun W hW => ld_one rfl (by kernel_rfl) (by kernel_rfl) W (hW.2.2.2.1 0 _ rfl)) ⟨hS6, zA, rG, tA, aA⟩ ?_
      refine hx_take (i := 7) (oi := _) (v := .int .i64 (j : Int)) rfl rfl hns (by kernel_rfl) (by kernel_rfl) hQ (by kernel_rfl) (fun _ _ => by kernel_rfl) ⟨hS6, zA, rG, tA, aA⟩ ?_
      refine hx_take (i := 8) (oi := _) (v := .pointer (some ⟨rb, ro + j * 11, none⟩)) rfl rfl hns (by kernel_rfl) (by kernel_rfl) hQ (by kernel_rfl) (fun W _ => ix_sl (n := L.length) (c := rc) (K := 11) rfl (by kernel_rfl) (by kernel_rfl) (by kernel_rfl) rfl hlt W) ⟨hS6, zA, rG, tA, aA⟩ ?_
      refine hx_take (i := 9) (oi := _) (v := .agg #[.string ⟨z_s.toArray⟩, .string ⟨z_p.toArray⟩, .int .i64 z_n, .bool z_v0, .string ⟨z_l0.toArray⟩, .bool z_v1, .string ⟨z_l1.toArray⟩, .bool z_v2, .string ⟨z_l2.toArray⟩, .bool z_v3, .string ⟨z_l3.toArray⟩]) rfl rfl hns (by kernel_rfl) (by kernel_rfl) hQ (by kernel_rfl) (fun W hW => ld_at rfl (by kernel_rfl) (by kernel_rfl) (by kernel_rfl) W (hW.2.1)) ⟨hS6, zA, rG, tA, aA⟩ ?_
      refine hx_take (i := 10) (oi := _) (v := .agg #[.string ⟨a_s.toArray⟩, .string ⟨a_p.toArray⟩, .int .i64 a_n, .bool a_v0, .string ⟨a_l0.toArray⟩, .bool a_v1, .string ⟨a_l1.toArray⟩, .bool a_v2, .string ⟨a_l2.toArray⟩, .bool a_v3, .string ⟨a_l3.toArray⟩]) rfl rfl hns (by kernel_rfl) (by kernel_rfl) hQ (by kernel_rfl) (fun W hW => ld_at rfl (by kernel_rfl) (by kernel_rfl) (by kernel_rfl) W (hW.2.2.2.2)) ⟨hS6, zA, rG, tA, aA⟩ ?_
      refine hx_take (i := 11) (oi := _) (v := .bool false) rfl rfl hns (by kernel_rfl) (by kernel_rfl) hQ (by kernel_rfl) (fun W _ => bin_valT (eqg_atom z_s z_p z_n z_v0 z_v1 z_v2 z_v3 z_l0 z_l1 z_l2 z_l3 a_s a_p a_n a_v0 a_v1 a_v2 a_v3 a_l0 a_l1 a_l2 a_l3 rfl (by kernel_rfl) (by kernel_rfl) W) hq9) ⟨hS6, zA, rG, tA, aA⟩ ?_
      refine wpAnyH_done (by kernel_rfl) ?_ _
      clear hns hQ
      simp only [List.set_cons_zero, List.set_cons_succ]
      clear zA rG tA aA
      go_wp2_with fail
      go_roundw
      case rel => exact ⟨j + 1, by omega, by go_num, hS6, by rw [HPM.out, hq9]; rfl⟩
      case measure => simp [intOf]; omega
    case true =>
      replace hS6 := hS6.trans ((Since.refl w6).drew)
      replace zA := zA.next ((Since.refl w6).drew)
      replace rG := rG.next ((Since.refl w6).drew)
      replace tA := tA.next ((Since.refl w6).drew)
      replace aA := aA.next ((Since.refl w6).drew)
      refine hx_begin (S := fun W => (Since w5 W) ∧ (At W rb (ro + j * 11) #[.string ⟨z_s.toArray⟩, .string ⟨z_p.toArray⟩, .int .i64 z_n, .bool z_v0, .string ⟨z_l0.toArray⟩, .bool z_v1, .string ⟨z_l1.toArray⟩, .bool z_v2, .string ⟨z_l2.toArray⟩, .bool z_v3, .string ⟨z_l3.toArray⟩]) ∧ (At W r 1 #[.slice (some ⟨gb, 0, none⟩) n gcap]) ∧ (At W gb (0 + i) #[.slice (some ⟨rb, ro, none⟩) L.length rc]) ∧ (At W w.heap.size 0 #[.string ⟨a_s.toArray⟩, .string ⟨a_p.toArray⟩, .int .i64 a_n, .bool a_v0, .string ⟨a_l0.toArray⟩, .bool a_v1, .string ⟨a_l1.toArray⟩, .bool a_v2, .string ⟨a_l2.toArray⟩, .bool a_v3, .string ⟨a_l3.toArray⟩])) (by kernel_rfl) ⟨hS6, zA, rG, tA, aA⟩ (by kernel_rfl) (fun _ _ _ _ _ h => h) (fun hns hQ => ?_)
      refine hx_take (i := 0) (oi := _) (v := .pointer (some ⟨r, 0, none⟩)) rfl rfl hns (by kernel_rfl) (by kernel_rfl) hQ (by kernel_rfl) (fun _ _ => by kernel_rfl) ⟨hS6, zA, rG, tA, aA⟩ ?_
      refine hx_take (i := 1) (oi := _) (v := .pointer (some ⟨r, 0, none⟩)) rfl rfl hns (by kernel_rfl) (by kernel_rfl) hQ (by kernel_rfl) (fun _ _ => by kernel_rfl) ⟨hS6, zA, rG, tA, aA⟩ ?_
      refine hx_take (i := 2) (oi := _) (v := .pointer (some ⟨r, 1, none⟩)) rfl rfl hns (by kernel_rfl) (by kernel_rfl) hQ (by kernel_rfl) (fun _ _ => by kernel_rfl) ⟨hS6, zA, rG, tA, aA⟩ ?_
      refine hx_take (i := 3) (oi := _) (v := .slice (some ⟨gb, 0, none⟩) n gcap) rfl rfl hns (by kernel_rfl) (by kernel_rfl) hQ (by kernel_rfl) (fun W hW => ld_one rfl (by kernel_rfl) (by kernel_rfl) W (hW.2.2.1 0 _ rfl)) ⟨hS6, zA, rG, tA, aA⟩ ?_
      refine hx_take (i := 4) (oi := _) (v := .int .i64 (i : Int)) rfl rfl hns (by kernel_rfl) (by kernel_rfl) hQ (by kernel_rfl) (fun _ _ => by kernel_rfl) ⟨hS6, zA, rG, tA, aA⟩ ?_
      refine hx_take (i := 5) (oi := _) (v := .pointer (some ⟨gb, 0 + i, none⟩)) rfl rfl hns (by kernel_rfl) (by kernel_rfl) hQ (by kernel_rfl) (fun W _ => ix_sl1 (n := n) (c := gcap) rfl (by kernel_rfl) (by kernel_rfl) (by kernel_rfl) rfl hiL W) ⟨hS6, zA, rG, tA, aA⟩ ?_
      refine hx_take (i := 6) (oi := _) (v := .slice (some ⟨rb, ro, none⟩) L.length rc) rfl rfl hns (by kernel_rfl) (by kernel_rfl) hQ (by kernel_rfl) (fun W hW => ld_one rfl (by kernel_rfl) (by kernel_rfl) W (hW.2.2.2.1 0 _ rfl)) ⟨hS6, zA, rG, tA, aA⟩ ?_
      refine hx_take (i := 7) (oi := _) (v := .int .i64 (j : Int)) rfl rfl hns (by kernel_rfl) (by kernel_rfl) hQ (by kernel_rfl) (fun _ _ => by kernel_rfl) ⟨hS6, zA, rG, tA, aA⟩ ?_
      refine hx_take (i := 8) (oi := _) (v := .pointer (some ⟨rb, ro + j * 11, none⟩)) rfl rfl hns (by kernel_rfl) (by kernel_rfl) hQ (by kernel_rfl) (fun W _ => ix_sl (n := L.length) (c := rc) (K := 11) rfl (by kernel_rfl) (by kernel_rfl) (by kernel_rfl) rfl hlt W) ⟨hS6, zA, rG, tA, aA⟩ ?_
      refine hx_take (i := 9) (oi := _) (v := .agg #[.string ⟨z_s.toArray⟩, .string ⟨z_p.toArray⟩, .int .i64 z_n, .bool z_v0, .string ⟨z_l0.toArray⟩, .bool z_v1, .string ⟨z_l1.toArray⟩, .bool z_v2, .string ⟨z_l2.toArray⟩, .bool z_v3, .string ⟨z_l3.toArray⟩]) rfl rfl hns (by kernel_rfl) (by kernel_rfl) hQ (by kernel_rfl) (fun W hW => ld_at rfl (by kernel_rfl) (by kernel_rfl) (by kernel_rfl) W (hW.2.1)) ⟨hS6, zA, rG, tA, aA⟩ ?_
      refine hx_take (i := 10) (oi := _) (v := .agg #[.string ⟨a_s.toArray⟩, .string ⟨a_p.toArray⟩, .int .i64 a_n, .bool a_v0, .string ⟨a_l0.toArray⟩, .bool a_v1, .string ⟨a_l1.toArray⟩, .bool a_v2, .string ⟨a_l2.toArray⟩, .bool a_v3, .string ⟨a_l3.toArray⟩]) rfl rfl hns (by kernel_rfl) (by kernel_rfl) hQ (by kernel_rfl) (fun W hW => ld_at rfl (by kernel_rfl) (by kernel_rfl) (by kernel_rfl) W (hW.2.2.2.2)) ⟨hS6, zA, rG, tA, aA⟩ ?_
      refine hx_take (i := 11) (oi := _) (v := .bool true) rfl rfl hns (by kernel_rfl) (by kernel_rfl) hQ (by kernel_rfl) (fun W _ => bin_valT (eqg_atom z_s z_p z_n z_v0 z_v1 z_v2 z_v3 z_l0 z_l1 z_l2 z_l3 a_s a_p a_n a_v0 a_v1 a_v2 a_v3 a_l0 a_l1 a_l2 a_l3 rfl (by kernel_rfl) (by kernel_rfl) W) hq9) ⟨hS6, zA, rG, tA, aA⟩ ?_
      refine wpAnyH_done (by kernel_rfl) ?_ _
      clear hns hQ
      simp only [List.set_cons_zero, List.set_cons_succ]
      clear zA rG tA aA
      go_wp2_with fail
      go_ret2
      exact .inl ⟨HIN.out hq9, rfl, hS.trans hS6⟩
  have hlt2 : ¬ (j : Int) < (L.length : Int) := by omega
  rw [List.take_of_length_le (by omega)] at hno
  have hni : Hid (¬ ((a_s, a_p, a_n, (a_v0, a_l0), (a_v1, a_l1), (a_v2, a_l2), (a_v3, a_l3)) : Atm) ∈ L) := fun e => by
    cases hp : posF L ((a_s, a_p, a_n, (a_v0, a_l0), (a_v1, a_l1), (a_v2, a_l2), (a_v3, a_l3)) : Atm) 0 with
    | none => exact posF_none.1 hp e
    | some q => have := hno.out; rw [hp] at this; cases this
  go_wp2_with fail
  have rG := rG0.next hSw
  have aA := HAA.out.next hS6
  have hCI : CellIs w6 gb (0 + i) (.slice ra L.length rc) := by show _ = _; rw [Nat.zero_add]; exact c6
  have hO := own_since HO.out hSw
  have hC := HC.out.next hSw
  have hN := hSw
  clear r6 c6 hno
  replace hCI := hCI.next ((Since.refl w6).drew)
  replace hO := own_since hO ((Since.refl w6).drew)
  replace hC := hC.next ((Since.refl w6).drew)
  replace hN := hN.trans ((Since.refl w6).drew)
  replace rG := rG.next ((Since.refl w6).drew)
  replace aA := aA.next ((Since.refl w6).drew)
  refine hx_begin (S := fun W => (At W r 1 #[.slice (some ⟨gb, 0, none⟩) n gcap]) ∧ (At W w.heap.size 0 #[.string ⟨a_s.toArray⟩, .string ⟨a_p.toArray⟩, .int .i64 a_n, .bool a_v0, .string ⟨a_l0.toArray⟩, .bool a_v1, .string ⟨a_l1.toArray⟩, .bool a_v2, .string ⟨a_l2.toArray⟩, .bool a_v3, .string ⟨a_l3.toArray⟩])) (by kernel_rfl) ⟨rG, aA⟩ (by kernel_rfl) (fun _ _ _ _ _ h => h) (fun hns hQ => ?_)
  refine hx_take (i := 0) (oi := _) (v := .pointer (some ⟨r, 0, none⟩)) rfl rfl hns (by kernel_rfl) (by kernel_rfl) hQ (by kernel_rfl) (fun _ _ => by kernel_rfl) ⟨rG, aA⟩ ?_
  refine hx_take (i := 1) (oi := _) (v := .pointer (some ⟨r, 0, none⟩)) rfl rfl hns (by kernel_rfl) (by kernel_rfl) hQ (by kernel_rfl) (fun _ _ => by kernel_rfl) ⟨rG, aA⟩ ?_
  refine hx_take (i := 2) (oi := _) (v := .pointer (some ⟨r, 1, none⟩)) rfl rfl hns (by kernel_rfl) (by kernel_rfl) hQ (by kernel_rfl) (fun _ _ => by kernel_rfl) ⟨rG, aA⟩ ?_
  refine hx_take (i := 3) (oi := _) (v := .slice (some ⟨gb, 0, none⟩) n gcap) rfl rfl hns (by kernel_rfl) (by kernel_rfl) hQ (by kernel_rfl) (fun W hW => ld_one rfl (by kernel_rfl) (by kernel_rfl) W (hW.1 0 _ rfl)) ⟨rG, aA⟩ ?_
  refine hx_take (i := 4) (oi := _) (v := .int .i64 (i : Int)) rfl rfl hns (by kernel_rfl) (by kernel_rfl) hQ (by kernel_rfl) (fun _ _ => by kernel_rfl) ⟨rG, aA⟩ ?_
  refine hx_take (i := 5) (oi := _) (v := .pointer (some ⟨r, 0, none⟩)) rfl rfl hns (by kernel_rfl) (by kernel_rfl) hQ (by kernel_rfl) (fun _ _ => by kernel_rfl) ⟨rG, aA⟩ ?_
  refine hx_take (i := 6) (oi := _) (v := .pointer (some ⟨r, 0, none⟩)) rfl rfl hns (by kernel_rfl) (by kernel_rfl) hQ (by kernel_rfl) (fun _ _ => by kernel_rfl) ⟨rG, aA⟩ ?_
  refine hx_take (i := 7) (oi := _) (v := .pointer (some ⟨r, 1, none⟩)) rfl rfl hns (by kernel_rfl) (by kernel_rfl) hQ (by kernel_rfl) (fun _ _ => by kernel_rfl) ⟨rG, aA⟩ ?_
  refine hx_take (i := 8) (oi := _) (v := .slice (some ⟨gb, 0, none⟩) n gcap) rfl rfl hns (by kernel_rfl) (by kernel_rfl) hQ (by kernel_rfl) (fun W hW => ld_one rfl (by kernel_rfl) (by kernel_rfl) W (hW.1 0 _ rfl)) ⟨rG, aA⟩ ?_
  refine hx_take (i := 9) (oi := _) (v := .int .i64 (i : Int)) rfl rfl hns (by kernel_rfl) (by kernel_rfl) hQ (by kernel_rfl) (fun _ _ => by kernel_rfl) ⟨rG, aA⟩ ?_
  refine hx_take (i := 10) (oi := _) (v := .pointer (some ⟨gb, 0 + i, none⟩)) rfl rfl hns (by kernel_rfl) (by kernel_rfl) hQ (by kernel_rfl) (fun W _ => ix_sl1 (n := n) (c := gcap) rfl (by kernel_rfl) (by kernel_rfl) (by kernel_rfl) rfl hiL W) ⟨rG, aA⟩ ?_
  refine hx_take (i := 12) (oi := _) (v := .agg #[.string ⟨a_s.toArray⟩, .string ⟨a_p.toArray⟩, .int .i64 a_n, .bool a_v0, .string ⟨a_l0.toArray⟩, .bool a_v1, .string ⟨a_l1.toArray⟩, .bool a_v2, .string ⟨a_l2.toArray⟩, .bool a_v3, .string ⟨a_l3.toArray⟩]) rfl rfl hns (by kernel_rfl) (by kernel_rfl) hQ (by kernel_rfl) (fun W hW => ld_at rfl (by kernel_rfl) (by kernel_rfl) (by kernel_rfl) W (hW.2)) ⟨rG, aA⟩ ?_
  refine hx_two_vv (i := 11) (j := 13) (.slice ra L.length rc) (w6.drew) (.slice (some ⟨w6.drew.heap.size, 0, none⟩) 1 1) ((w6.drew.alloc (.cells #[.string ⟨a_s.toArray⟩, .string ⟨a_p.toArray⟩, .int .i64 a_n, .bool a_v0, .string ⟨a_l0.toArray⟩, .bool a_v1, .string ⟨a_l1.toArray⟩, .bool a_v2, .string ⟨a_l2.toArray⟩, .bool a_v3, .string ⟨a_l3.toArray⟩] 33))) rfl rfl (by kernel_rfl) (by kernel_rfl) (by kernel_rfl) rfl (ld_one rfl (by kernel_rfl) (by kernel_rfl) w6.drew (hCI.cell 0)) ⟨rG, aA⟩ rfl (by kernel_rfl) ⟨rG.next ((Since.refl w6.drew).alloc (.cells #[.string ⟨a_s.toArray⟩, .string ⟨a_p.toArray⟩, .int .i64 a_n, .bool a_v0, .string ⟨a_l0.toArray⟩, .bool a_v1, .string ⟨a_l1.toArray⟩, .bool a_v2, .string ⟨a_l2.toArray⟩, .bool a_v3, .string ⟨a_l3.toArray⟩] 33)), aA.next ((Since.refl w6.drew).alloc (.cells #[.string ⟨a_s.toArray⟩, .string ⟨a_p.toArray⟩, .int .i64 a_n, .bool a_v0, .string ⟨a_l0.toArray⟩, .bool a_v1, .string ⟨a_l1.toArray⟩, .bool a_v2, .string ⟨a_l2.toArray⟩, .bool a_v3, .string ⟨a_l3.toArray⟩] 33))⟩ ?_ ?_
  · refine hx_make (i := 13) (oi := _) (.slice (some ⟨w6.drew.heap.size, 0, none⟩) 1 1) (w6.drew.alloc (.cells #[.string ⟨a_s.toArray⟩, .string ⟨a_p.toArray⟩, .int .i64 a_n, .bool a_v0, .string ⟨a_l0.toArray⟩, .bool a_v1, .string ⟨a_l1.toArray⟩, .bool a_v2, .string ⟨a_l2.toArray⟩, .bool a_v3, .string ⟨a_l3.toArray⟩] 33)) rfl rfl (by kernel_rfl) (by kernel_rfl) (by kernel_rfl) ⟨rG.next ((Since.refl w6.drew).alloc (.cells #[.string ⟨a_s.toArray⟩, .string ⟨a_p.toArray⟩, .int .i64 a_n, .bool a_v0, .string ⟨a_l0.toArray⟩, .bool a_v1, .string ⟨a_l1.toArray⟩, .bool a_v2, .string ⟨a_l2.toArray⟩, .bool a_v3, .string ⟨a_l3.toArray⟩] 33)), aA.next ((Since.refl w6.drew).alloc (.cells #[.string ⟨a_s.toArray⟩, .string ⟨a_p.toArray⟩, .int .i64 a_n, .bool a_v0, .string ⟨a_l0.toArray⟩, .bool a_v1, .string ⟨a_l1.toArray⟩, .bool a_v2, .string ⟨a_l2.toArray⟩, .bool a_v3, .string ⟨a_l3.toArray⟩] 33))⟩ ?_
    replace rG := rG.next ((Since.refl w6.drew).alloc (.cells #[.string ⟨a_s.toArray⟩, .string ⟨a_p.toArray⟩, .int .i64 a_n, .bool a_v0, .string ⟨a_l0.toArray⟩, .bool a_v1, .string ⟨a_l1.toArray⟩, .bool a_v2, .string ⟨a_l2.toArray⟩, .bool a_v3, .string ⟨a_l3.toArray⟩] 33))
    replace aA := aA.next ((Since.refl w6.drew).alloc (.cells #[.string ⟨a_s.toArray⟩, .string ⟨a_p.toArray⟩, .int .i64 a_n, .bool a_v0, .string ⟨a_l0.toArray⟩, .bool a_v1, .string ⟨a_l1.toArray⟩, .bool a_v2, .string ⟨a_l2.toArray⟩, .bool a_v3, .string ⟨a_l3.toArray⟩] 33))
    replace hCI := hCI.next ((Since.refl w6.drew).alloc (.cells #[.string ⟨a_s.toArray⟩, .string ⟨a_p.toArray⟩, .int .i64 a_n, .bool a_v0, .string ⟨a_l0.toArray⟩, .bool a_v1, .string ⟨a_l1.toArray⟩, .bool a_v2, .string ⟨a_l2.toArray⟩, .bool a_v3, .string ⟨a_l3.toArray⟩] 33))
    replace hO := own_since hO ((Since.refl w6.drew).alloc (.cells #[.string ⟨a_s.toArray⟩, .string ⟨a_p.toArray⟩, .int .i64 a_n, .bool a_v0, .string ⟨a_l0.toArray⟩, .bool a_v1, .string ⟨a_l1.toArray⟩, .bool a_v2, .string ⟨a_l2.toArray⟩, .bool a_v3, .string ⟨a_l3.toArray⟩] 33))
    replace hC := hC.next ((Since.refl w6.drew).alloc (.cells #[.string ⟨a_s.toArray⟩, .string ⟨a_p.toArray⟩, .int .i64 a_n, .bool a_v0, .string ⟨a_l0.toArray⟩, .bool a_v1, .string ⟨a_l1.toArray⟩, .bool a_v2, .string ⟨a_l2.toArray⟩, .bool a_v3, .string ⟨a_l3.toArray⟩] 33))
    replace hN := hN.trans ((Since.refl w6.drew).alloc (.cells #[.string ⟨a_s.toArray⟩, .string ⟨a_p.toArray⟩, .int .i64 a_n, .bool a_v0, .string ⟨a_l0.toArray⟩, .bool a_v1, .string ⟨a_l1.toArray⟩, .bool a_v2, .string ⟨a_l2.toArray⟩, .bool a_v3, .string ⟨a_l3.toArray⟩] 33))
    refine hx_append (i := 14) (oi := _) (.tmp 72) (.tmp 74) 48 D 33 i5 (.agg #[.string ByteArray.empty, .string ByteArray.empty, .int .i64 0, .bool false, .string ByteArray.empty, .bool false, .string ByteArray.empty, .bool false, .string ByteArray.empty, .bool false, .string ByteArray.empty]) 11 136 (.slice ra L.length rc) L.length _ _ (some ⟨w6.drew.heap.size, 0, none⟩) 1 1 (#[.string ⟨a_s.toArray⟩, .string ⟨a_p.toArray⟩, .int .i64 a_n, .bool a_v0, .string ⟨a_l0.toArray⟩, .bool a_v1, .string ⟨a_l1.toArray⟩, .bool a_v2, .string ⟨a_l2.toArray⟩, .bool a_v3, .string ⟨a_l3.toArray⟩] : Array Value).toList rfl rfl (by kernel_rfl) (by kernel_rfl) rfl Tryz.underlying48 I5.out.1 I5.out.2.1 I5.out.2.2.1 I5.out.2.2.2 rfl (by decide) (by kernel_rfl) hO (by kernel_rfl) (reads_new _ #[.string ⟨a_s.toArray⟩, .string ⟨a_p.toArray⟩, .int .i64 a_n, .bool a_v0, .string ⟨a_l0.toArray⟩, .bool a_v1, .string ⟨a_l1.toArray⟩, .bool a_v2, .string ⟨a_l2.toArray⟩, .bool a_v3, .string ⟨a_l3.toArray⟩] _ 11 rfl) (by simp [Value.oneCell']) (by unfold maxLen; omega) (by omega) (Nat.le_trans hD hN.size) ?_
    intro v14 w14 hown4 hg4 hat4
    have rG14 : At w14 r 1 #[.slice (some ⟨gb, 0, none⟩) n gcap] := rG.far hg4 (HRN.out _ _ hN hO)
    have aA14 := aA.far hg4 (fun e => by have := HLT.out _ e.symm; omega)
    obtain ⟨a4, c4, rfl⟩ := own_slice hown4
    have hX9 := HWD.out _ _ _ hN hg4 hown4 hat4
    replace hC := cel_own hC hO (by decide) hg4
    clear hO hg4 hat4 hown4 hN rG aA
    have rG := rG14
    have aA := aA14
    refine ⟨⟨rG, aA⟩, ?_⟩
    refine hx_take (i := 15) (oi := _) (v := .pointer (some ⟨gb, 0 + i, none⟩)) rfl rfl hns (by kernel_rfl) (by kernel_rfl) hQ (by kernel_rfl) (fun W _ => ix_sl1 (n := n) (c := gcap) rfl (by kernel_rfl) (by kernel_rfl) (by kernel_rfl) rfl hiL W) ⟨rG, aA⟩ ?_
    replace rG : At (w14.setCell ⟨gb, 0 + i, none⟩ (.slice a4 (L.length + 1) c4)) r 1 #[.slice (some ⟨gb, 0, none⟩) n gcap] := rG14.far (grown_setCell w14 gb (0 + i) (.slice a4 (L.length + 1) c4)) HRG.out
    replace aA : At (w14.setCell ⟨gb, 0 + i, none⟩ (.slice a4 (L.length + 1) c4)) w.heap.size 0 #[.string ⟨a_s.toArray⟩, .string ⟨a_p.toArray⟩, .int .i64 a_n, .bool a_v0, .string ⟨a_l0.toArray⟩, .bool a_v1, .string ⟨a_l1.toArray⟩, .bool a_v2, .string ⟨a_l2.toArray⟩, .bool a_v3, .string ⟨a_l3.toArray⟩] := aA14.far (grown_setCell w14 gb (0 + i) (.slice a4 (L.length + 1) c4)) (fun e => by injection e with e; have := HGB.out; omega)
    refine hx_store (i := 16) (oi := _) (w14.setCell ⟨gb, 0 + i, none⟩ (.slice a4 (L.length + 1) c4)) rfl rfl (by kernel_rfl) (by kernel_rfl) (st_atms rfl (by kernel_rfl) (by kernel_rfl) _ hC HE4.out) ⟨rG, aA⟩ ?_
    refine wpAnyH_done (by kernel_rfl) ?_ _
    clear hns hQ
    simp only [List.set_cons_zero, List.set_cons_succ]
    clear hC rG rG14 aA aA14
    go_wp2_with fail
    go_ret2
    exact .inr ⟨hni.out, rfl, hX9⟩
  · replace rG := rG.next ((Since.refl w6.drew).alloc (.cells #[.string ⟨a_s.toArray⟩, .string ⟨a_p.toArray⟩, .int .i64 a_n, .bool a_v0, .string ⟨a_l0.toArray⟩, .bool a_v1, .string ⟨a_l1.toArray⟩, .bool a_v2, .string ⟨a_l2.toArray⟩, .bool a_v3, .string ⟨a_l3.toArray⟩] 33))
    replace aA := aA.next ((Since.refl w6.drew).alloc (.cells #[.string ⟨a_s.toArray⟩, .string ⟨a_p.toArray⟩, .int .i64 a_n, .bool a_v0, .string ⟨a_l0.toArray⟩, .bool a_v1, .string ⟨a_l1.toArray⟩, .bool a_v2, .string ⟨a_l2.toArray⟩, .bool a_v3, .string ⟨a_l3.toArray⟩] 33))
    replace hCI := hCI.next ((Since.refl w6.drew).alloc (.cells #[.string ⟨a_s.toArray⟩, .string ⟨a_p.toArray⟩, .int .i64 a_n, .bool a_v0, .string ⟨a_l0.toArray⟩, .bool a_v1, .string ⟨a_l1.toArray⟩, .bool a_v2, .string ⟨a_l2.toArray⟩, .bool a_v3, .string ⟨a_l3.toArray⟩] 33))
    replace hO := own_since hO ((Since.refl w6.drew).alloc (.cells #[.string ⟨a_s.toArray⟩, .string ⟨a_p.toArray⟩, .int .i64 a_n, .bool a_v0, .string ⟨a_l0.toArray⟩, .bool a_v1, .string ⟨a_l1.toArray⟩, .bool a_v2, .string ⟨a_l2.toArray⟩, .bool a_v3, .string ⟨a_l3.toArray⟩] 33))
    replace hC := hC.next ((Since.refl w6.drew).alloc (.cells #[.string ⟨a_s.toArray⟩, .string ⟨a_p.toArray⟩, .int .i64 a_n, .bool a_v0, .string ⟨a_l0.toArray⟩, .bool a_v1, .string ⟨a_l1.toArray⟩, .bool a_v2, .string ⟨a_l2.toArray⟩, .bool a_v3, .string ⟨a_l3.toArray⟩] 33))
    replace hN := hN.trans ((Since.refl w6.drew).alloc (.cells #[.string ⟨a_s.toArray⟩, .string ⟨a_p.toArray⟩, .int .i64 a_n, .bool a_v0, .string ⟨a_l0.toArray⟩, .bool a_v1, .string ⟨a_l1.toArray⟩, .bool a_v2, .string ⟨a_l2.toArray⟩, .bool a_v3, .string ⟨a_l3.toArray⟩] 33))
    refine hx_make (i := 11) (oi := _) (.slice ra L.length rc) (w6.drew.alloc (.cells #[.string ⟨a_s.toArray⟩, .string ⟨a_p.toArray⟩, .int .i64 a_n, .bool a_v0, .string ⟨a_l0.toArray⟩, .bool a_v1, .string ⟨a_l1.toArray⟩, .bool a_v2, .string ⟨a_l2.toArray⟩, .bool a_v3, .string ⟨a_l3.toArray⟩] 33)) rfl rfl (by kernel_rfl) (by kernel_rfl) (ld_one rfl (by kernel_rfl) (by kernel_rfl) (w6.drew.alloc (.cells #[.string ⟨a_s.toArray⟩, .string ⟨a_p.toArray⟩, .int .i64 a_n, .bool a_v0, .string ⟨a_l0.toArray⟩, .bool a_v1, .string ⟨a_l1.toArray⟩, .bool a_v2, .string ⟨a_l2.toArray⟩, .bool a_v3, .string ⟨a_l3.toArray⟩] 33)) (hCI.cell 0)) ⟨rG, aA⟩ ?_
    refine hx_append (i := 14) (oi := _) (.tmp 72) (.tmp 74) 48 D 33 i5 (.agg #[.string ByteArray.empty, .string ByteArray.empty, .int .i64 0, .bool false, .string ByteArray.empty, .bool false, .string ByteArray.empty, .bool false, .string ByteArray.empty, .bool false, .string ByteArray.empty]) 11 136 (.slice ra L.length rc) L.length _ _ (some ⟨w6.drew.heap.size, 0, none⟩) 1 1 (#[.string ⟨a_s.toArray⟩, .string ⟨a_p.toArray⟩, .int .i64 a_n, .bool a_v0, .string ⟨a_l0.toArray⟩, .bool a_v1, .string ⟨a_l1.toArray⟩, .bool a_v2, .string ⟨a_l2.toArray⟩, .bool a_v3, .string ⟨a_l3.toArray⟩] : Array Value).toList rfl rfl (by kernel_rfl) (by kernel_rfl) rfl Tryz.underlying48 I5.out.1 I5.out.2.1 I5.out.2.2.1 I5.out.2.2.2 rfl (by decide) (by kernel_rfl) hO (by kernel_rfl) (reads_new _ #[.string ⟨a_s.toArray⟩, .string ⟨a_p.toArray⟩, .int .i64 a_n, .bool a_v0, .string ⟨a_l0.toArray⟩, .bool a_v1, .string ⟨a_l1.toArray⟩, .bool a_v2, .string ⟨a_l2.toArray⟩, .bool a_v3, .string ⟨a_l3.toArray⟩] _ 11 rfl) (by simp [Value.oneCell']) (by unfold maxLen; omega) (by omega) (Nat.le_trans hD hN.size) ?_
    intro v14 w14 hown4 hg4 hat4
    have rG14 : At w14 r 1 #[.slice (some ⟨gb, 0, none⟩) n gcap] := rG.far hg4 (HRN.out _ _ hN hO)
    have aA14 := aA.far hg4 (fun e => by have := HLT.out _ e.symm; omega)
    obtain ⟨a4, c4, rfl⟩ := own_slice hown4
    have hX9 := HWD.out _ _ _ hN hg4 hown4 hat4
    replace hC := cel_own hC hO (by decide) hg4
    clear hO hg4 hat4 hown4 hN rG aA
    have rG := rG14
    have aA := aA14
    refine ⟨⟨rG, aA⟩, ?_⟩
    refine hx_take (i := 15) (oi := _) (v := .pointer (some ⟨gb, 0 + i, none⟩)) rfl rfl hns (by kernel_rfl) (by kernel_rfl) hQ (by kernel_rfl) (fun W _ => ix_sl1 (n := n) (c := gcap) rfl (by kernel_rfl) (by kernel_rfl) (by kernel_rfl) rfl hiL W) ⟨rG, aA⟩ ?_
    replace rG : At (w14.setCell ⟨gb, 0 + i, none⟩ (.slice a4 (L.length + 1) c4)) r 1 #[.slice (some ⟨gb, 0, none⟩) n gcap] := rG14.far (grown_setCell w14 gb (0 + i) (.slice a4 (L.length + 1) c4)) HRG.out
    replace aA : At (w14.setCell ⟨gb, 0 + i, none⟩ (.slice a4 (L.length + 1) c4)) w.heap.size 0 #[.string ⟨a_s.toArray⟩, .string ⟨a_p.toArray⟩, .int .i64 a_n, .bool a_v0, .string ⟨a_l0.toArray⟩, .bool a_v1, .string ⟨a_l1.toArray⟩, .bool a_v2, .string ⟨a_l2.toArray⟩, .bool a_v3, .string ⟨a_l3.toArray⟩] := aA14.far (grown_setCell w14 gb (0 + i) (.slice a4 (L.length + 1) c4)) (fun e => by injection e with e; have := HGB.out; omega)
    refine hx_store (i := 16) (oi := _) (w14.setCell ⟨gb, 0 + i, none⟩ (.slice a4 (L.length + 1) c4)) rfl rfl (by kernel_rfl) (by kernel_rfl) (st_atms rfl (by kernel_rfl) (by kernel_rfl) _ hC HE4.out) ⟨rG, aA⟩ ?_
    refine wpAnyH_done (by kernel_rfl) ?_ _
    clear hns hQ
    simp only [List.set_cons_zero, List.set_cons_succ]
    clear hC rG rG14 aA aA14
    go_wp2_with fail
    go_ret2
    exact .inr ⟨hni.out, rfl, hX9⟩
end Go.Proofs.YtbgdljcgbhhfdaaGreatDoor

namespace Go.Proofs.YtbgdljcgbhhfdaaGreatDoor
open Go.RowKit Go.Maps Go.WideMaps

/-- What holds at any moment of the region in which the three rows grow by one (bits: what has come up). -/
structure OpJ (w0 : World) (D r : Nat) (av gv wv : Value) (S : List TCall) (GL : List (List Atm × Value)) (WL : List (List Int × Value)) (C : Atm) (gb : Nat) (bx : Array Value) (W : World) (b9 b10 b15 b16 b21 b22 b25 b28 b31 : Bool) (x29 x30 x35 x36 x41 x42 : Value) : Prop where
  keep : Keep (RefB r av gv wv GL WL) w0 W
  c25 : b25 = true → b10 = true
  c28 : b28 = true → b16 = true
  c31 : b31 = true → b22 = true
  cel : Cel W r #[bif b25 then x30 else av, bif b28 then x36 else gv, bif b31 then x42 else wv] 52
  box : b10 = false → Cel W gb bx 33
  f29 : b9 = true → b10 = false → ∃ g, x29 = .slice (some ⟨g, 0, none⟩) 1 1 ∧ Cel W g (atmC C) 33
  f35 : b15 = true → b16 = false → ∃ g, x35 = .slice (some ⟨g, 0, none⟩) 1 1 ∧ Cel W g #[nilR] 48
  f41 : b21 = true → b22 = false → ∃ g, x41 = .slice (some ⟨g, 0, none⟩) 1 1 ∧ Cel W g #[nilR] 54
  atoms : W.ownsRow D 33 11 (bif b10 then x30 else av) (bif b10 then S.length + 1 else S.length) (bif b10 then (S.map fun c => c.1).flatMap atmL ++ (atmC C).toList else (S.map fun c => c.1).flatMap atmL)
  got : GotAt W D (bif b16 then x36 else gv) (bif b16 then GL ++ [([], nilR)] else GL)
  who : WhoAt W D (bif b22 then x42 else wv) (bif b22 then WL ++ [([], nilR)] else WL)
  gapart : ∀ p ∈ (bif b16 then GL ++ [([], nilR)] else GL), apartV p.2 (bif b10 then x30 else av)
  k30 : b10 = true → ∀ b, x30.ownBlock = some b → av.ownBlock = some b ∨ w0.heap.size ≤ b
  k36 : b16 = true → ∀ b, x36.ownBlock = some b → gv.ownBlock = some b ∨ w0.heap.size ≤ b
  k42 : b22 = true → ∀ b, x42.ownBlock = some b → wv.ownBlock = some b ∨ w0.heap.size ≤ b
section
variable {w0 : World} {D r : Nat} {av gv wv : Value} {S : List TCall} {GL : List (List Atm × Value)} {WL : List (List Int × Value)} {C : Atm} {gb : Nat} {bx : Array Value} {W W3 : World} {b9 b10 b15 b16 b21 b22 b25 b28 b31 : Bool} {x29 x30 x35 x36 x41 x42 : Value}
theorem OpJ.begin (h : RefAt w0 D r av gv wv S GL WL) (hb : Cel w0 gb bx 33) (x29 x30 x35 x36 x41 x42 : Value) : OpJ w0 D r av gv wv S GL WL C gb bx w0 false false false false false false false false false x29 x30 x35 x36 x41 x42 :=
  ⟨Keep.refl _ _, fun h => h, fun h => h, fun h => h, h.cel, fun _ => hb, fun h => (by cases h), fun h => (by cases h), fun h => (by cases h), h.atoms, h.got, h.who, h.gapart, fun h => (by cases h), fun h => (by cases h), fun h => (by cases h)⟩
theorem OpJ.next (h : OpJ w0 D r av gv wv S GL WL C gb bx W b9 b10 b15 b16 b21 b22 b25 b28 b31 x29 x30 x35 x36 x41 x42) (hs : Since W W3) : OpJ w0 D r av gv wv S GL WL C gb bx W3 b9 b10 b15 b16 b21 b22 b25 b28 b31 x29 x30 x35 x36 x41 x42 :=
  ⟨h.keep.trans (Keep.of_since (Z := fun _ => False) hs) (fun _ h => h.elim), h.c25, h.c28, h.c31, h.cel.next hs, fun e => (h.box e).next hs, fun a b => (h.f29 a b).imp fun _ k => ⟨k.1, k.2.next hs⟩, fun a b => (h.f35 a b).imp fun _ k => ⟨k.1, k.2.next hs⟩,
   fun a b => (h.f41 a b).imp fun _ k => ⟨k.1, k.2.next hs⟩, own_since h.atoms hs, Nest.next h.got hs, Nest.next h.who hs, h.gapart, h.k30, h.k36, h.k42⟩
theorem OpJ.at9 (h : OpJ w0 D r av gv wv S GL WL C gb bx W b9 b10 b15 b16 b21 b22 b25 b28 b31 x29 x30 x35 x36 x41 x42) : OpJ w0 D r av gv wv S GL WL C gb bx (W.alloc (.cells (atmC C) 33)) true b10 b15 b16 b21 b22 b25 b28 b31 (.slice (some ⟨W.heap.size, 0, none⟩) 1 1) x30 x35 x36 x41 x42 := by
  have k := h.next ((Since.refl W).alloc (.cells (atmC C) 33))
  exact ⟨k.keep, k.c25, k.c28, k.c31, k.cel, k.box, fun _ _ => ⟨_, rfl, heap_alloc_new _ _⟩, k.f35, k.f41, k.atoms, k.got, k.who, k.gapart, k.k30, k.k36, k.k42⟩
theorem OpJ.at15 (h : OpJ w0 D r av gv wv S GL WL C gb bx W b9 b10 b15 b16 b21 b22 b25 b28 b31 x29 x30 x35 x36 x41 x42) : OpJ w0 D r av gv wv S GL WL C gb bx (W.alloc (.cells #[nilR] 48)) b9 b10 true b16 b21 b22 b25 b28 b31 x29 x30 (.slice (some ⟨W.heap.size, 0, none⟩) 1 1) x36 x41 x42 := by
  have k := h.next ((Since.refl W).alloc (.cells #[nilR] 48))
  exact ⟨k.keep, k.c25, k.c28, k.c31, k.cel, k.box, k.f29, fun _ _ => ⟨_, rfl, heap_alloc_new _ _⟩, k.f41, k.atoms, k.got, k.who, k.gapart, k.k30, k.k36, k.k42⟩
theorem OpJ.at21 (h : OpJ w0 D r av gv wv S GL WL C gb bx W b9 b10 b15 b16 b21 b22 b25 b28 b31 x29 x30 x35 x36 x41 x42) : OpJ w0 D r av gv wv S GL WL C gb bx (W.alloc (.cells #[nilR] 54)) b9 b10 b15 b16 true b22 b25 b28 b31 x29 x30 x35 x36 (.slice (some ⟨W.heap.size, 0, none⟩) 1 1) x42 := by
  have k := h.next ((Since.refl W).alloc (.cells #[nilR] 54))
  exact ⟨k.keep, k.c25, k.c28, k.c31, k.cel, k.box, k.f29, k.f35, fun _ _ => ⟨_, rfl, heap_alloc_new _ _⟩, k.atoms, k.got, k.who, k.gapart, k.k30, k.k36, k.k42⟩
theorem OpJ.at10 {v : Value} (h : OpJ w0 D r av gv wv S GL WL C gb bx W b9 false b15 b16 b21 b22 b25 b28 b31 x29 x30 x35 x36 x41 x42) (hg : W.grownBy W3 av.ownBlock) (ho : W3.ownsRow D 33 11 v (S.length + 1) ((S.map fun c => c.1).flatMap atmL ++ (atmC C).toList))
    (hat : v.ownBlock = av.ownBlock ∨ v.ownBlock = some W.heap.size) : OpJ w0 D r av gv wv S GL WL C gb bx W3 b9 true b15 b16 b21 b22 b25 b28 b31 x29 v x35 x36 x41 x42 := by
  have hA : W.ownsRow D 33 11 av S.length ((S.map fun c => c.1).flatMap atmL) := h.atoms
  have hap : ∀ p ∈ (bif b16 then GL ++ [([], nilR)] else GL), apartV p.2 av := h.gapart
  have h25 : b25 = false := by
    cases hb : b25 with
    | false => rfl
    | true => exact absurd (h.c25 hb) (by decide)
  subst h25
  refine ⟨h.keep.trans (Keep.of_grown (Z := RefB r av gv wv GL WL) hg (fun b hb => .inr (.inl hb))) (fun _ hb => .inl hb), fun e => (by cases e), h.c28, h.c31, cel_own h.cel hA (by decide) hg, fun e => (by cases e), fun _ e => (by cases e),
    fun a b => (h.f35 a b).imp fun _ k => ⟨k.1, cel_own k.2 hA (by decide) hg⟩, fun a b => (h.f41 a b).imp fun _ k => ⟨k.1, cel_own k.2 hA (by decide) hg⟩, ho,
    ⟨(Nest.row h.got).kept hg (own_kind_apart (Nest.row h.got) hA (by decide)), fun p hp => (Nest.ins h.got p hp).kept hg (hap p hp), Nest.apart h.got⟩, Nest.own h.who hA hg (by decide) (by decide), fun p hp => ?_, fun _ b hb => ?_, h.k36, h.k42⟩
  · show apartV p.2 v
    rcases hat with e | e
    · have := hap p hp
      unfold apartV at this ⊢
      rw [e]; exact this
    · unfold apartV
      cases hb : p.2.ownBlock with
      | none => exact .inl rfl
      | some b =>
        refine .inr fun e2 => ?_
        rw [e] at e2
        injection e2 with e2
        have := ((Nest.ins h.got p hp).lt b hb).2
        omega
  · rcases hat with e | e
    · exact .inl (by rw [← e]; exact hb)
    · rw [e] at hb
      injection hb with hb
      exact .inr (by rw [← hb]; exact h.keep.size)
theorem OpJ.at16 {v : Value} (h : OpJ w0 D r av gv wv S GL WL C gb bx W b9 b10 b15 false b21 b22 b25 b28 b31 x29 x30 x35 x36 x41 x42) (hg : W.grownBy W3 gv.ownBlock) (ho : W3.ownsRow D 48 1 v (GL.length + 1) ((GL.flatMap fun p => [p.2]) ++ [nilR]))
    (hat : v.ownBlock = gv.ownBlock ∨ v.ownBlock = some W.heap.size) : OpJ w0 D r av gv wv S GL WL C gb bx W3 b9 b10 b15 true b21 b22 b25 b28 b31 x29 x30 x35 v x41 x42 := by
  have hG : GotAt W D gv GL := h.got
  have hR : W.ownsRow D 48 1 gv GL.length (GL.flatMap fun p => [p.2]) := Nest.row hG
  have hap : ∀ p ∈ GL, apartV p.2 (bif b10 then x30 else av) := h.gapart
  have h28 : b28 = false := by
    cases hb : b28 with
    | false => rfl
    | true => exact absurd (h.c28 hb) (by decide)
  subst h28
  refine ⟨h.keep.trans (Keep.of_grown (Z := RefB r av gv wv GL WL) hg (fun b hb => .inr (.inr (.inl (.inl hb))))) (fun _ hb => .inl hb), h.c25, fun e => (by cases e), h.c31, cel_own h.cel hR (by decide) hg, fun e => cel_own (h.box e) hR (by decide) hg, fun a b => (h.f29 a b).imp fun _ k => ⟨k.1, cel_own k.2 hR (by decide) hg⟩,
    fun _ e => (by cases e), fun a b => (h.f41 a b).imp fun _ k => ⟨k.1, cel_own k.2 hR (by decide) hg⟩, h.atoms.kept hg (own_kind_apart h.atoms hR (by decide)), VecAt.snoc (by decide) hG hg ho, Nest.own h.who hR hg (by decide) (by decide), fun p hp => ?_, h.k30, fun _ b hb => ?_, h.k42⟩
  · have hp2 : p ∈ GL ++ [([], nilR)] := hp
    rcases List.mem_append.1 hp2 with hp2 | hp2
    · exact hap p hp2
    · obtain rfl := List.mem_singleton.1 hp2
      exact .inl rfl
  · rcases hat with e | e
    · exact .inl (by rw [← e]; exact hb)
    · rw [e] at hb
      injection hb with hb
      exact .inr (by rw [← hb]; exact h.keep.size)
theorem OpJ.at22 {v : Value} (h : OpJ w0 D r av gv wv S GL WL C gb bx W b9 b10 b15 b16 b21 false b25 b28 b31 x29 x30 x35 x36 x41 x42) (hg : W.grownBy W3 wv.ownBlock) (ho : W3.ownsRow D 54 1 v (WL.length + 1) ((WL.flatMap fun p => [p.2]) ++ [nilR]))
    (hat : v.ownBlock = wv.ownBlock ∨ v.ownBlock = some W.heap.size) : OpJ w0 D r av gv wv S GL WL C gb bx W3 b9 b10 b15 b16 b21 true b25 b28 b31 x29 x30 x35 x36 x41 v := by
  have hG : WhoAt W D wv WL := h.who
  have hR : W.ownsRow D 54 1 wv WL.length (WL.flatMap fun p => [p.2]) := Nest.row hG
  have h31 : b31 = false := by
    cases hb : b31 with
    | false => rfl
    | true => exact absurd (h.c31 hb) (by decide)
  subst h31
  refine ⟨h.keep.trans (Keep.of_grown (Z := RefB r av gv wv GL WL) hg (fun b hb => .inr (.inr (.inr (.inl hb))))) (fun _ hb => .inl hb), h.c25, h.c28, fun e => (by cases e), cel_own h.cel hR (by decide) hg, fun e => cel_own (h.box e) hR (by decide) hg, fun a b => (h.f29 a b).imp fun _ k => ⟨k.1, cel_own k.2 hR (by decide) hg⟩,
    fun a b => (h.f35 a b).imp fun _ k => ⟨k.1, cel_own k.2 hR (by decide) hg⟩, fun _ e => (by cases e), h.atoms.kept hg (own_kind_apart h.atoms hR (by decide)), Nest.own h.got hR hg (by decide) (by decide), VecAt.snoc (by decide) hG hg ho, h.gapart, h.k30, h.k36, fun _ b hb => ?_⟩
  rcases hat with e | e
  · exact .inl (by rw [← e]; exact hb)
  · rw [e] at hb
    injection hb with hb
    exact .inr (by rw [← hb]; exact h.keep.size)
theorem OpJ.st25 (h : OpJ w0 D r av gv wv S GL WL C gb bx W b9 true b15 b16 b21 b22 false b28 b31 x29 x30 x35 x36 x41 x42) : OpJ w0 D r av gv wv S GL WL C gb bx (W.setCell ⟨r, 0, none⟩ x30) b9 true b15 b16 b21 b22 true b28 b31 x29 x30 x35 x36 x41 x42 := by
  have hg := grown_setCell W r 0 x30
  refine ⟨h.keep.trans (Keep.of_grown (Z := RefB r av gv wv GL WL) hg (fun b hb => .inl (by injection hb with hb; exact hb.symm))) (fun _ hb => .inl hb), fun _ => rfl, h.c28, h.c31, h.cel.set (by rfl), fun e => (by cases e), fun _ e => (by cases e),
    fun a b => (h.f35 a b).imp fun _ k => ⟨k.1, k.2.grown hg (fun e => cel_cel_ne k.2 h.cel (by decide) (by injection e))⟩, fun a b => (h.f41 a b).imp fun _ k => ⟨k.1, k.2.grown hg (fun e => cel_cel_ne k.2 h.cel (by decide) (by injection e))⟩,
    own_setCell h.atoms h.cel (by decide), Nest.cel h.got h.cel hg (by decide) (by decide), Nest.cel h.who h.cel hg (by decide) (by decide), h.gapart, h.k30, h.k36, h.k42⟩
theorem OpJ.st28 (h : OpJ w0 D r av gv wv S GL WL C gb bx W b9 b10 b15 true b21 b22 b25 false b31 x29 x30 x35 x36 x41 x42) : OpJ w0 D r av gv wv S GL WL C gb bx (W.setCell ⟨r, 1, none⟩ x36) b9 b10 b15 true b21 b22 b25 true b31 x29 x30 x35 x36 x41 x42 := by
  have hg := grown_setCell W r 1 x36
  refine ⟨h.keep.trans (Keep.of_grown (Z := RefB r av gv wv GL WL) hg (fun b hb => .inl (by injection hb with hb; exact hb.symm))) (fun _ hb => .inl hb), h.c25, fun _ => rfl, h.c31, h.cel.set (by rfl), fun e => (h.box e).grown hg (fun e2 => cel_cel_ne (h.box e) h.cel (by decide) (by injection e2)), fun a b => (h.f29 a b).imp fun _ k => ⟨k.1, k.2.grown hg (fun e => cel_cel_ne k.2 h.cel (by decide) (by injection e))⟩,
    fun _ e => (by cases e), fun a b => (h.f41 a b).imp fun _ k => ⟨k.1, k.2.grown hg (fun e => cel_cel_ne k.2 h.cel (by decide) (by injection e))⟩,
    own_setCell h.atoms h.cel (by decide), Nest.cel h.got h.cel hg (by decide) (by decide), Nest.cel h.who h.cel hg (by decide) (by decide), h.gapart, h.k30, h.k36, h.k42⟩
theorem OpJ.st31 (h : OpJ w0 D r av gv wv S GL WL C gb bx W b9 b10 b15 b16 b21 true b25 b28 false x29 x30 x35 x36 x41 x42) : OpJ w0 D r av gv wv S GL WL C gb bx (W.setCell ⟨r, 2, none⟩ x42) b9 b10 b15 b16 b21 true b25 b28 true x29 x30 x35 x36 x41 x42 := by
  have hg := grown_setCell W r 2 x42
  refine ⟨h.keep.trans (Keep.of_grown (Z := RefB r av gv wv GL WL) hg (fun b hb => .inl (by injection hb with hb; exact hb.symm))) (fun _ hb => .inl hb), h.c25, h.c28, fun _ => rfl, h.cel.set (by rfl), fun e => (h.box e).grown hg (fun e2 => cel_cel_ne (h.box e) h.cel (by decide) (by injection e2)), fun a b => (h.f29 a b).imp fun _ k => ⟨k.1, k.2.grown hg (fun e => cel_cel_ne k.2 h.cel (by decide) (by injection e))⟩,
    fun a b => (h.f35 a b).imp fun _ k => ⟨k.1, k.2.grown hg (fun e => cel_cel_ne k.2 h.cel (by decide) (by injection e))⟩, fun _ e => (by cases e),
    own_setCell h.atoms h.cel (by decide), Nest.cel h.got h.cel hg (by decide) (by decide), Nest.cel h.who h.cel hg (by decide) (by decide), h.gapart, h.k30, h.k36, h.k42⟩
theorem OpJ.end (h : OpJ w0 D r av gv wv S GL WL C gb bx W b9 true b15 true b21 true true true true x29 x30 x35 x36 x41 x42) (gm : GL.map Prod.fst = S.map (fun c => c.2.1)) (wm : WL.map Prod.fst = S.map (fun c => c.2.2)) (low : D ≤ r) :
    RefAt W D r x30 x36 x42 (S ++ [(C, [], [])]) (GL ++ [([], nilR)]) (WL ++ [([], nilR)]) ∧ (∀ b, RefB r x30 x36 x42 (GL ++ [([], nilR)]) (WL ++ [([], nilR)]) b → RefB r av gv wv GL WL b ∨ w0.heap.size ≤ b) ∧ Keep (RefB r av gv wv GL WL) w0 W := by
  refine ⟨⟨h.cel, ?_, h.got, h.who, ?_, ?_, h.gapart, low⟩, fun b hb => ?_, h.keep⟩
  · have := h.atoms
    rw [List.length_append, List.map_append, List.flatMap_append]
    rw [show (List.map (fun c : TCall => c.1) [(C, [], [])]).flatMap atmL = (atmC C).toList from List.append_nil _]
    exact this
  · rw [List.map_append, List.map_append, gm]; rfl
  · rw [List.map_append, List.map_append, wm]; rfl
  · rcases hb with hb | hb | (hb | ⟨p, hp, hb⟩) | (hb | ⟨p, hp, hb⟩)
    · exact .inl (.inl hb)
    · exact (h.k30 rfl b hb).imp (fun e => .inr (.inl e)) id
    · exact (h.k36 rfl b hb).imp (fun e => .inr (.inr (.inl (.inl e)))) id
    · rcases List.mem_append.1 hp with hp | hp
      · exact .inl (.inr (.inr (.inl (.inr ⟨p, hp, hb⟩))))
      · obtain rfl := List.mem_singleton.1 hp
        cases hb
    · exact (h.k42 rfl b hb).imp (fun e => .inr (.inr (.inr (.inl e)))) id
    · rcases List.mem_append.1 hp with hp | hp
      · exact .inl (.inr (.inr (.inr (.inr ⟨p, hp, hb⟩))))
      · obtain rfl := List.mem_singleton.1 hp
        cases hb
end
end Go.Proofs.YtbgdljcgbhhfdaaGreatDoor

namespace Go.Proofs.YtbgdljcgbhhfdaaGreatDoor
open Go.RowKit Go.Maps Go.WideMaps
attribute [local go_sem ↓] run_atomEq
attribute [local go_sem] eqA_self

theorem sx_val {P : Program} {o : Oper} {a : Act} {d : Nat} {W W' : World} {K : Act → World → Prop} {Q : Exit → Act → World → Prop} {v : Value} (hd : o.dst = some d) (hrun : (execOp (Act.eval a) o).run P W = .ok (.value v) W') (h : K (a.put (some d) v) W') : Sealed (Oper.wp P o a W K Q) := by
  refine ⟨?_⟩
  unfold Oper.wp
  rw [hrun, Oper.upon_value, hd]
  exact h
theorem sx_skip {P : Program} {o : Oper} {a : Act} {W W' : World} {K : Act → World → Prop} {Q : Exit → Act → World → Prop} (hd : o.dst = none) (hrun : (execOp (Act.eval a) o).run P W = .ok .skip W') (h : K a W') : Sealed (Oper.wp P o a W K Q) := by
  refine ⟨?_⟩
  unfold Oper.wp
  rw [hrun, Oper.upon_skip, hd]
  exact h
theorem sx_call {P : Program} {o : Oper} {a : Act} {d : Nat} {W : World} {K : Act → World → Prop} {Q : Exit → Act → World → Prop} (f : FuncId) (args : Array Value) {R : Ending → World → Prop} (hd : o.dst = some d) (hrun : (execOp (Act.eval a) o).run P W = .ok (.enter f args) W) (hc : Calls P f args W R)
    (h : ∀ e w', R e w' → ∃ v, e = .returned v ∧ K (a.put (some d) v) w') : Sealed (Oper.wp P o a W K Q) := by
  refine ⟨?_⟩
  unfold Oper.wp
  rw [hrun, Oper.upon_enter]
  refine hc.mono fun e w' hR => ?_
  obtain ⟨v, rfl, h2⟩ := h e w' hR
  show K (Act.put _ o.dst v) w'
  rw [hd]
  exact h2
theorem sx_append {P : Program} (w : World) {o : Oper} {a : Act} {d : Nat} {K : Act → World → Prop} {Q : Exit → Act → World → Prop} (hd : o.dst = some d) (s x : Operand) (t : TypeId)
    (ho : o.op = .call { callee := .builtin .append, args := #[s, x], argTypes := #[t, t] })
    (base : Nat) (e : TypeId) (i : TypeInfo) (z : Value) (size bytes : Nat) (ht : P.underlying t = some (.slice e)) (hi : P.info? e = some i) (hz : i.zero = some z)
    (hsize : i.size = size) (hby : i.bytes = bytes) (hzs : z.cells.size = size) (hsz : 0 < size)
    (v : Value) (n : Nat) (xs : List Value) (hs : a.eval s = v) (hown : w.ownsRow base e size v n xs)
    (B : Nat) (A : Option Addr) (m c : Nat) (news : List Value) (hx : a.eval x = .slice A m c) (hr : Reads w B size A m news) (h1 : ∀ u ∈ news, u.oneCell' = true)
    (h63 : n + m ≤ maxLen) (hbytes : (n + m) * bytes ≤ 140737488355328) (hbase : base ≤ w.heap.size)
    (h : ∀ v' w', w'.ownsRow base e size v' (n + m) (xs ++ news) → w.grownBy w' v.ownBlock → (v'.ownBlock = v.ownBlock ∨ v'.ownBlock = some w.heap.size) → K (a.put (some d) v') w') : Sealed (o.wp P a w K Q) :=
  ⟨wp_append_any w s x t ho base e i z size bytes ht hi hz hsize hby hzs hsz v n xs hs hown B A m c news hx hr h1 h63 hbytes hbase (by rw [hd]; exact h)⟩
theorem info_rowA : (Tryz.prog.info? 48).map (fun i => (i.zero, i.size, i.bytes)) = some (some (.slice none 0 0), 1, 24) := by kernel_rfl
theorem info_rowI : (Tryz.prog.info? 54).map (fun i => (i.zero, i.size, i.bytes)) = some (some (.slice none 0 0), 1, 24) := by kernel_rfl
theorem st_atmss {o : Oper} {x y : Operand} {ev : Operand → Value} {g k : Nat} {a : Option Addr} {n c : Nat} {cs : Array Value} {T : TypeId} (ho : o.op = Op.store 49 x y) (hx : ev x = .pointer (some ⟨g, k, none⟩)) (hy : ev y = .slice a n c) (W : World) (h : Cel W g cs T) (hk : (cs[k]?).isSome = true) :
    (execOp ev o).run Tryz.prog W = .ok .skip (W.setCell ⟨g, k, none⟩ (.slice a n c)) := by
  obtain ⟨u, hu⟩ := Option.isSome_iff_exists.1 hk
  have h1 : W.cell? ⟨g, k, none⟩ = some u := (h.cell k).trans hu
  have h2 := h.free k
  simp only [execOp, ho]
  go_simp
theorem st_intss {o : Oper} {x y : Operand} {ev : Operand → Value} {g k : Nat} {a : Option Addr} {n c : Nat} {cs : Array Value} {T : TypeId} (ho : o.op = Op.store 50 x y) (hx : ev x = .pointer (some ⟨g, k, none⟩)) (hy : ev y = .slice a n c) (W : World) (h : Cel W g cs T) (hk : (cs[k]?).isSome = true) :
    (execOp ev o).run Tryz.prog W = .ok .skip (W.setCell ⟨g, k, none⟩ (.slice a n c)) := by
  obtain ⟨u, hu⟩ := Option.isSome_iff_exists.1 hk
  have h1 : W.cell? ⟨g, k, none⟩ = some u := (h.cell k).trans hu
  have h2 := h.free k
  simp only [execOp, ho]
  go_simp
set_option maxHeartbeats 4000000 in
set_option maxRecDepth 100000 in
theorem ropen_bad {r : Nat} (a_s a_p : List UInt8) (a_n : Int) (a_v0 a_v1 a_v2 a_v3 : Bool) (a_l0 a_l1 a_l2 a_l3 : List UInt8) (w : World) (hf : FitsA ((a_s, a_p, a_n, (a_v0, a_l0), (a_v1, a_l1), (a_v2, a_l2), (a_v3, a_l3)) : Atm)) (hk : ¬ checkA ((a_s, a_p, a_n, (a_v0, a_l0), (a_v1, a_l1), (a_v2, a_l2), (a_v3, a_l3)) : Atm) = 0) :
    Calls Tryz.prog 10 #[.pointer (some ⟨r, 0, none⟩), .agg #[.string ⟨a_s.toArray⟩, .string ⟨a_p.toArray⟩, .int .i64 a_n, .bool a_v0, .string ⟨a_l0.toArray⟩, .bool a_v1, .string ⟨a_l1.toArray⟩, .bool a_v2, .string ⟨a_l2.toArray⟩, .bool a_v3, .string ⟨a_l3.toArray⟩]] w fun e w' => e = .returned (.tuple #[.int .i64 0, .bool false, .int .i64 2]) ∧ Since w w' := by
  have hS : Since w (w.alloc (.cells #[.string ⟨a_s.toArray⟩, .string ⟨a_p.toArray⟩, .int .i64 a_n, .bool a_v0, .string ⟨a_l0.toArray⟩, .bool a_v1, .string ⟨a_l1.toArray⟩, .bool a_v2, .string ⟨a_l2.toArray⟩, .bool a_v3, .string ⟨a_l3.toArray⟩] 33)) := (Since.refl w).alloc _
  have aB : Box (w.alloc (.cells #[.string ⟨a_s.toArray⟩, .string ⟨a_p.toArray⟩, .int .i64 a_n, .bool a_v0, .string ⟨a_l0.toArray⟩, .bool a_v1, .string ⟨a_l1.toArray⟩, .bool a_v2, .string ⟨a_l2.toArray⟩, .bool a_v3, .string ⟨a_l3.toArray⟩] 33)) w.heap.size ((a_s, a_p, a_n, (a_v0, a_l0), (a_v1, a_l1), (a_v2, a_l2), (a_v3, a_l3)) : Atm) := box_new w ((a_s, a_p, a_n, (a_v0, a_l0), (a_v1, a_l1), (a_v2, a_l2), (a_v3, a_l3)) : Atm) _
  have HCK := Lib.hid (fun W => rcheck_any a_s a_p a_n a_v0 a_v1 a_v2 a_v3 a_l0 a_l1 a_l2 a_l3 W hf)
  obtain ⟨k, hk2⟩ : ∃ k, Hid (k = checkA ((a_s, a_p, a_n, (a_v0, a_l0), (a_v1, a_l1), (a_v2, a_l2), (a_v3, a_l3)) : Atm)) := ⟨_, rfl⟩
  rw [← hk2.out] at HCK hk
  obtain ⟨a_c0, a_c1, a_c2, a_c3, a_c4, a_c5, a_c6, a_c7, a_c8, a_c9, a_c10⟩ := aB.all
  clear hk2
  have hk3 : (k != (0 : Int)) = true := by simpa using hk
  clear hf
  go_enter Tryz.func10, Tryz.ntmps10
  go_wp2_with fail
  refine (HCK.out _).mono ?_
  rintro e w3 ⟨rfl, hb⟩
  replace hS := hS.trans hb
  clear hb HCK a_c0 a_c1 a_c2 a_c3 a_c4 a_c5 a_c6 a_c7 a_c8 a_c9 a_c10
  go_wp2_with fail
  go_ret3
  exact ⟨rfl, hS⟩
set_option maxHeartbeats 4000000 in
set_option maxRecDepth 100000 in
theorem ropen_found {D r : Nat} {av gv wv : Value} {S : List TCall} {GL : List (List Atm × Value)} {WL : List (List Int × Value)} (a_s a_p : List UInt8) (a_n : Int) (a_v0 a_v1 a_v2 a_v3 : Bool) (a_l0 a_l1 a_l2 a_l3 : List UInt8) (w : World) (h : RefAt w D r av gv wv S GL WL) (hl : S.length < 1000) (hf : FitsA ((a_s, a_p, a_n, (a_v0, a_l0), (a_v1, a_l1), (a_v2, a_l2), (a_v3, a_l3)) : Atm)) (hk : checkA ((a_s, a_p, a_n, (a_v0, a_l0), (a_v1, a_l1), (a_v2, a_l2), (a_v3, a_l3)) : Atm) = 0) {p : Nat} (hp : posF (S.map fun c => c.1) (canA ((a_s, a_p, a_n, (a_v0, a_l0), (a_v1, a_l1), (a_v2, a_l2), (a_v3, a_l3)) : Atm)) 0 = some p) :
    Calls Tryz.prog 10 #[.pointer (some ⟨r, 0, none⟩), .agg #[.string ⟨a_s.toArray⟩, .string ⟨a_p.toArray⟩, .int .i64 a_n, .bool a_v0, .string ⟨a_l0.toArray⟩, .bool a_v1, .string ⟨a_l1.toArray⟩, .bool a_v2, .string ⟨a_l2.toArray⟩, .bool a_v3, .string ⟨a_l3.toArray⟩]] w fun e w' => e = .returned (.tuple #[.int .i64 (p : Int), .bool false, .int .i64 0]) ∧ Since w w' := by
  have hS : Since w (w.alloc (.cells #[.string ⟨a_s.toArray⟩, .string ⟨a_p.toArray⟩, .int .i64 a_n, .bool a_v0, .string ⟨a_l0.toArray⟩, .bool a_v1, .string ⟨a_l1.toArray⟩, .bool a_v2, .string ⟨a_l2.toArray⟩, .bool a_v3, .string ⟨a_l3.toArray⟩] 33)) := (Since.refl w).alloc _
  have aB : Box (w.alloc (.cells #[.string ⟨a_s.toArray⟩, .string ⟨a_p.toArray⟩, .int .i64 a_n, .bool a_v0, .string ⟨a_l0.toArray⟩, .bool a_v1, .string ⟨a_l1.toArray⟩, .bool a_v2, .string ⟨a_l2.toArray⟩, .bool a_v3, .string ⟨a_l3.toArray⟩] 33)) w.heap.size ((a_s, a_p, a_n, (a_v0, a_l0), (a_v1, a_l1), (a_v2, a_l2), (a_v3, a_l3)) : Atm) := box_new w ((a_s, a_p, a_n, (a_v0, a_l0), (a_v1, a_l1), (a_v2, a_l2), (a_v3, a_l3)) : Atm) _
  have HCK := Lib.hid (fun W => rcheck_any a_s a_p a_n a_v0 a_v1 a_v2 a_v3 a_l0 a_l1 a_l2 a_l3 W hf)
  obtain ⟨k, hk2⟩ : ∃ k, Hid (k = checkA ((a_s, a_p, a_n, (a_v0, a_l0), (a_v1, a_l1), (a_v2, a_l2), (a_v3, a_l3)) : Atm)) := ⟨_, rfl⟩
  rw [← hk2.out] at HCK hk
  obtain ⟨a_c0, a_c1, a_c2, a_c3, a_c4, a_c5, a_c6, a_c7, a_c8, a_c9, a_c10⟩ := aB.all
  clear hk2
  have HRF := Lib.hid (fun W (hs : Since w W) => rfind18 a_s a_p a_n a_v0 a_v1 a_v2 a_v3 a_l0 a_l1 a_l2 a_l3 W (h.next hs) hl)
  rw [hp] at HRF
  simp only [posV, Option.isSome] at HRF
  rw [hk] at HCK
  clear h hf
  go_enter Tryz.func10, Tryz.ntmps10
  go_wp2_with fail
  refine (HCK.out _).mono ?_
  rintro e w3 ⟨rfl, hb⟩
  replace hS := hS.trans hb
  replace aB := aB.next hb
  clear hb HCK a_c0 a_c1 a_c2 a_c3 a_c4 a_c5 a_c6 a_c7 a_c8 a_c9 a_c10
  obtain ⟨a_c0, a_c1, a_c2, a_c3, a_c4, a_c5, a_c6, a_c7, a_c8, a_c9, a_c10⟩ := aB.all
  go_wp2_with fail
  refine (HRF.out _ hS).mono ?_
  rintro e w4 ⟨rfl, hb⟩
  replace hS := hS.trans hb
  clear hb HRF a_c0 a_c1 a_c2 a_c3 a_c4 a_c5 a_c6 a_c7 a_c8 a_c9 a_c10 aB
  go_wp2_with fail
  go_ret3
  exact ⟨rfl, hS⟩
theorem some_at {cs : Array Value} {n k : Nat} (h : cs.size = n) (hk : k < n) : (cs[k]?).isSome = true := by
  rw [Array.getElem?_eq_getElem (by omega)]; rfl
theorem rep_f (n j : Nat) : (Array.replicate n false).getD j false = false := by simp [Array.getD]
theorem reads_celR {W : World} {g : Nat} {cs : Array Value} {e : TypeId} {K : Nat} (h : Cel W g cs e) (hK : cs.size = K) : Reads W W.heap.size K (some ⟨g, 0, none⟩) 1 cs.toList := by
  refine ⟨by simp [hK], fun _ => ⟨_, rfl, h.lt, fun j u hu => ?_⟩⟩
  rw [add_form, Nat.zero_add, h.cell j, ← hu, Array.getElem?_toList]
set_option maxHeartbeats 0 in
set_option maxRecDepth 100000 in
theorem ropen_new {D r : Nat} {av gv wv : Value} {S : List TCall} {GL : List (List Atm × Value)} {WL : List (List Int × Value)} (a_s a_p : List UInt8) (a_n : Int) (a_v0 a_v1 a_v2 a_v3 : Bool) (a_l0 a_l1 a_l2 a_l3 : List UInt8) (w : World) (h : RefAt w D r av gv wv S GL WL) (hl : S.length < 1000) (hD0 : D ≤ w.heap.size) (hf : FitsA ((a_s, a_p, a_n, (a_v0, a_l0), (a_v1, a_l1), (a_v2, a_l2), (a_v3, a_l3)) : Atm)) (hk : checkA ((a_s, a_p, a_n, (a_v0, a_l0), (a_v1, a_l1), (a_v2, a_l2), (a_v3, a_l3)) : Atm) = 0) (hp : posF (S.map fun c => c.1) (canA ((a_s, a_p, a_n, (a_v0, a_l0), (a_v1, a_l1), (a_v2, a_l2), (a_v3, a_l3)) : Atm)) 0 = none) :
    Calls Tryz.prog 10 #[.pointer (some ⟨r, 0, none⟩), .agg #[.string ⟨a_s.toArray⟩, .string ⟨a_p.toArray⟩, .int .i64 a_n, .bool a_v0, .string ⟨a_l0.toArray⟩, .bool a_v1, .string ⟨a_l1.toArray⟩, .bool a_v2, .string ⟨a_l2.toArray⟩, .bool a_v3, .string ⟨a_l3.toArray⟩]] w fun e w' => e = .returned (.tuple #[.int .i64 (S.length : Int), .bool true, .int .i64 0]) ∧ ∃ av' gv' wv' GL' WL', RefAt w' D r av' gv' wv' (S ++ [(canA ((a_s, a_p, a_n, (a_v0, a_l0), (a_v1, a_l1), (a_v2, a_l2), (a_v3, a_l3)) : Atm), [], [])]) GL' WL' ∧ (∀ b, RefB r av' gv' wv' GL' WL' b → RefB r av gv wv GL WL b ∨ w.heap.size ≤ b) ∧ Keep (RefB r av gv wv GL WL) w w' := by
  have hS : Since w (w.alloc (.cells #[.string ⟨a_s.toArray⟩, .string ⟨a_p.toArray⟩, .int .i64 a_n, .bool a_v0, .string ⟨a_l0.toArray⟩, .bool a_v1, .string ⟨a_l1.toArray⟩, .bool a_v2, .string ⟨a_l2.toArray⟩, .bool a_v3, .string ⟨a_l3.toArray⟩] 33)) := (Since.refl w).alloc _
  have aB : Box (w.alloc (.cells #[.string ⟨a_s.toArray⟩, .string ⟨a_p.toArray⟩, .int .i64 a_n, .bool a_v0, .string ⟨a_l0.toArray⟩, .bool a_v1, .string ⟨a_l1.toArray⟩, .bool a_v2, .string ⟨a_l2.toArray⟩, .bool a_v3, .string ⟨a_l3.toArray⟩] 33)) w.heap.size ((a_s, a_p, a_n, (a_v0, a_l0), (a_v1, a_l1), (a_v2, a_l2), (a_v3, a_l3)) : Atm) := box_new w ((a_s, a_p, a_n, (a_v0, a_l0), (a_v1, a_l1), (a_v2, a_l2), (a_v3, a_l3)) : Atm) _
  have HCK := Lib.hid (fun W => rcheck_any a_s a_p a_n a_v0 a_v1 a_v2 a_v3 a_l0 a_l1 a_l2 a_l3 W hf)
  obtain ⟨k, hk2⟩ : ∃ k, Hid (k = checkA ((a_s, a_p, a_n, (a_v0, a_l0), (a_v1, a_l1), (a_v2, a_l2), (a_v3, a_l3)) : Atm)) := ⟨_, rfl⟩
  rw [← hk2.out] at HCK hk
  obtain ⟨a_c0, a_c1, a_c2, a_c3, a_c4, a_c5, a_c6, a_c7, a_c8, a_c9, a_c10⟩ := aB.all
  clear hk2
  have HRF := Lib.hid (fun W (hs : Since w W) => rfind18 a_s a_p a_n a_v0 a_v1 a_v2 a_v3 a_l0 a_l1 a_l2 a_l3 W (h.next hs) hl)
  rw [hp] at HRF
  simp only [posV, Option.isSome] at HRF
  rw [hk] at HCK
  have HCA := Lib.hid (fun W => rcanon_any a_s a_p a_n a_v0 a_v1 a_v2 a_v3 a_l0 a_l1 a_l2 a_l3 W)
  obtain ⟨c, hc0⟩ : ∃ c, Hid (c = canA ((a_s, a_p, a_n, (a_v0, a_l0), (a_v1, a_l1), (a_v2, a_l2), (a_v3, a_l3)) : Atm)) := ⟨_, rfl⟩
  rw [← hc0.out] at HCA ⊢
  obtain ⟨c_s, c_p, c_n, ⟨c_v0, c_l0⟩, ⟨c_v1, c_l1⟩, ⟨c_v2, c_l2⟩, ⟨c_v3, c_l3⟩⟩ := c
  replace HCA : Hid (∀ W, Calls Tryz.prog 34 #[.agg #[.string ⟨a_s.toArray⟩, .string ⟨a_p.toArray⟩, .int .i64 a_n, .bool a_v0, .string ⟨a_l0.toArray⟩, .bool a_v1, .string ⟨a_l1.toArray⟩, .bool a_v2, .string ⟨a_l2.toArray⟩, .bool a_v3, .string ⟨a_l3.toArray⟩]] W fun e w' => e = .returned (.agg #[.string ⟨c_s.toArray⟩, .string ⟨c_p.toArray⟩, .int .i64 c_n, .bool c_v0, .string ⟨c_l0.toArray⟩, .bool c_v1, .string ⟨c_l1.toArray⟩, .bool c_v2, .string ⟨c_l2.toArray⟩, .bool c_v3, .string ⟨c_l3.toArray⟩]) ∧ Since W w') := HCA
  obtain ⟨n, hn⟩ : ∃ n, Hid (n = S.length) := ⟨_, rfl⟩
  have hgl : Hid (GL.length = n) := by show _ = _; rw [h.glen, hn.out]
  have hwl : Hid (WL.length = n) := by show _ = _; rw [h.wlen, hn.out]
  obtain ⟨sa, sc, rfl⟩ : ∃ a k, av = .slice a n k := by rw [hn.out]; exact own_slice h.atoms
  obtain ⟨ga, gc, rfl⟩ : ∃ a k, gv = .slice a n k := by have k := own_slice (Nest.row h.got); rw [hgl.out] at k; exact k
  obtain ⟨wa, wc, rfl⟩ : ∃ a k, wv = .slice a n k := by have k := own_slice (Nest.row h.who); rw [hwl.out] at k; exact k
  have hwrap : Hid (IntKind.i64.wrap (((n + 1 : Nat) : Int) - 1) = (n : Int)) := by
    show _ = _
    rw [show (((n + 1 : Nat) : Int) - 1) = (n : Int) by omega]
    exact IntWalk.i64_in _ (by have h8 : n < 1000 := (by rw [hn.out]; exact hl); omega)
  have HSL : Hid (n < 1000) := by show _ < _; rw [hn.out]; exact hl
  obtain ⟨i5, hi5, hz0, hz1, hz2⟩ := info_parts info_atms
  have I5 := Lib.hid (And.intro hi5 (And.intro hz0 (And.intro hz1 hz2)))
  obtain ⟨i6, hi6, hz0, hz1, hz2⟩ := info_parts info_rowA
  have I6 := Lib.hid (And.intro hi6 (And.intro hz0 (And.intro hz1 hz2)))
  obtain ⟨i7, hi7, hz0, hz1, hz2⟩ := info_parts info_rowI
  have I7 := Lib.hid (And.intro hi7 (And.intro hz0 (And.intro hz1 hz2)))
  obtain ⟨Q, hQ⟩ : ∃ Q : World → Prop, Hid (Q = fun w' => ∃ av' gv' wv' GL' WL', RefAt w' D r av' gv' wv' (S ++ [(((c_s, c_p, c_n, (c_v0, c_l0), (c_v1, c_l1), (c_v2, c_l2), (c_v3, c_l3)) : Atm), [], [])]) GL' WL' ∧ (∀ b, RefB r av' gv' wv' GL' WL' b → RefB r (.slice sa n sc) (.slice ga n gc) (.slice wa n wc) GL WL b ∨ w.heap.size ≤ b) ∧ Keep (RefB r (.slice sa n sc) (.slice ga n gc) (.slice wa n wc) GL WL) w w') := ⟨fun w' => ∃ av' gv' wv' GL' WL', RefAt w' D r av' gv' wv' (S ++ [(((c_s, c_p, c_n, (c_v0, c_l0), (c_v1, c_l1), (c_v2, c_l2), (c_v3, c_l3)) : Atm), [], [])]) GL' WL' ∧ (∀ b, RefB r av' gv' wv' GL' WL' b → RefB r (.slice sa n sc) (.slice ga n gc) (.slice wa n wc) GL WL b ∨ w.heap.size ≤ b) ∧ Keep (RefB r (.slice sa n sc) (.slice ga n gc) (.slice wa n wc) GL WL) w w', rfl⟩
  have hQ2 : ∀ w', (∃ av' gv' wv' GL' WL', RefAt w' D r av' gv' wv' (S ++ [(((c_s, c_p, c_n, (c_v0, c_l0), (c_v1, c_l1), (c_v2, c_l2), (c_v3, c_l3)) : Atm), [], [])]) GL' WL' ∧ (∀ b, RefB r av' gv' wv' GL' WL' b → RefB r (.slice sa n sc) (.slice ga n gc) (.slice wa n wc) GL WL b ∨ w.heap.size ≤ b) ∧ Keep (RefB r (.slice sa n sc) (.slice ga n gc) (.slice wa n wc) GL WL) w w') = Q w' := fun w' => by rw [hQ.out]
  rw [← hn.out]
  simp only [hQ2]
  have HQ := Lib.hid hQ2
  have HH := Lib.hid h
  have HD0 := Lib.hid hD0
  clear hQ hQ2 h hf hk hp hl hi5 hi6 hi7 hz0 hz1 hz2 hc0 hD0
  go_enter Tryz.func10, Tryz.ntmps10
  go_wp2_with fail
  refine (HCK.out _).mono ?_
  rintro e w3 ⟨rfl, hb⟩
  replace hS := hS.trans hb
  replace aB := aB.next hb
  have aC : Cel (w.alloc (.cells #[.string ⟨a_s.toArray⟩, .string ⟨a_p.toArray⟩, .int .i64 a_n, .bool a_v0, .string ⟨a_l0.toArray⟩, .bool a_v1, .string ⟨a_l1.toArray⟩, .bool a_v2, .string ⟨a_l2.toArray⟩, .bool a_v3, .string ⟨a_l3.toArray⟩] 33)) w.heap.size #[.string ⟨a_s.toArray⟩, .string ⟨a_p.toArray⟩, .int .i64 a_n, .bool a_v0, .string ⟨a_l0.toArray⟩, .bool a_v1, .string ⟨a_l1.toArray⟩, .bool a_v2, .string ⟨a_l2.toArray⟩, .bool a_v3, .string ⟨a_l3.toArray⟩] 33 := heap_alloc_new w _
  replace aC := aC.next hb
  clear hb HCK a_c0 a_c1 a_c2 a_c3 a_c4 a_c5 a_c6 a_c7 a_c8 a_c9 a_c10
  obtain ⟨a_c0, a_c1, a_c2, a_c3, a_c4, a_c5, a_c6, a_c7, a_c8, a_c9, a_c10⟩ := aB.all
  go_wp2_with fail
  refine (HRF.out _ hS).mono ?_
  rintro e w4 ⟨rfl, hb⟩
  replace hS := hS.trans hb
  replace aC := aC.next hb
  clear hb HRF a_c0 a_c1 a_c2 a_c3 a_c4 a_c5 a_c6 a_c7 a_c8 a_c9 a_c10 aB
  go_upto_region 6 with (fail)
  try simp only [List.append_eq, List.cons_append, List.nil_append]
  have hS0 : Since w w4.drew := hS.drew
  have h0 : RefAt w4.drew D r (.slice sa n sc) (.slice ga n gc) (.slice wa n wc) S GL WL := HH.out.next hS0
  have hb0 : Cel w4.drew w.heap.size #[.string ⟨a_s.toArray⟩, .string ⟨a_p.toArray⟩, .int .i64 a_n, .bool a_v0, .string ⟨a_l0.toArray⟩, .bool a_v1, .string ⟨a_l1.toArray⟩, .bool a_v2, .string ⟨a_l2.toArray⟩, .bool a_v3, .string ⟨a_l3.toArray⟩] 33 := aC.next (Since.refl w4).drew
  have hD : D ≤ w4.drew.heap.size := Nat.le_trans HD0.out hS0.size
  have hQ2 := HQ.out
  have HFI : Hid (∀ (W : World) (x30 x36 x42 : Value), (RefAt W D r x30 x36 x42 (S ++ [(((c_s, c_p, c_n, (c_v0, c_l0), (c_v1, c_l1), (c_v2, c_l2), (c_v3, c_l3)) : Atm), [], [])]) (GL ++ [([], nilR)]) (WL ++ [([], nilR)]) ∧ (∀ b, RefB r x30 x36 x42 (GL ++ [([], nilR)]) (WL ++ [([], nilR)]) b → RefB r (.slice sa n sc) (.slice ga n gc) (.slice wa n wc) GL WL b ∨ w4.drew.heap.size ≤ b) ∧ Keep (RefB r (.slice sa n sc) (.slice ga n gc) (.slice wa n wc) GL WL) w4.drew W) → (∃ av' gv' wv' GL' WL', RefAt W D r av' gv' wv' (S ++ [(((c_s, c_p, c_n, (c_v0, c_l0), (c_v1, c_l1), (c_v2, c_l2), (c_v3, c_l3)) : Atm), [], [])]) GL' WL' ∧ (∀ b, RefB r av' gv' wv' GL' WL' b → RefB r (.slice sa n sc) (.slice ga n gc) (.slice wa n wc) GL WL b ∨ w.heap.size ≤ b) ∧ Keep (RefB r (.slice sa n sc) (.slice ga n gc) (.slice wa n wc) GL WL) w W)) :=
    fun W x30 x36 x42 ⟨k1, k2, k3⟩ => ⟨_, _, _, _, _, k1, fun b hb => (k2 b hb).imp id (fun e => Nat.le_trans hS0.size e), (Keep.of_since hS0).trans k3 (fun _ hx => .inl hx)⟩
  obtain ⟨gb, hgb⟩ : ∃ gb, Hid (gb = w.heap.size) := ⟨_, rfl⟩
  rw [← hgb.out] at hb0 ⊢
  obtain ⟨J, hJ0⟩ : ∃ J, Hid (J = OpJ w4.drew D r (.slice sa n sc) (.slice ga n gc) (.slice wa n wc) S GL WL ((c_s, c_p, c_n, (c_v0, c_l0), (c_v1, c_l1), (c_v2, c_l2), (c_v3, c_l3)) : Atm) gb #[.string ⟨a_s.toArray⟩, .string ⟨a_p.toArray⟩, .int .i64 a_n, .bool a_v0, .string ⟨a_l0.toArray⟩, .bool a_v1, .string ⟨a_l1.toArray⟩, .bool a_v2, .string ⟨a_l2.toArray⟩, .bool a_v3, .string ⟨a_l3.toArray⟩]) := ⟨_, rfl⟩
  have hJE := hJ0.out
  have HJ0 : Hid (∀ x29 x30 x35 x36 x41 x42 : Value, J w4.drew false false false false false false false false false x29 x30 x35 x36 x41 x42) := fun x29 x30 x35 x36 x41 x42 => by rw [hJE]; exact OpJ.begin h0 hb0 x29 x30 x35 x36 x41 x42
  have HJN : Hid (∀ (W : World) (b9 b10 b15 b16 b21 b22 b25 b28 b31 : Bool) (x29 x30 x35 x36 x41 x42 : Value) (W3 : World), J W b9 b10 b15 b16 b21 b22 b25 b28 b31 x29 x30 x35 x36 x41 x42 → Since W W3 → J W3 b9 b10 b15 b16 b21 b22 b25 b28 b31 x29 x30 x35 x36 x41 x42) :=
    fun W b9 b10 b15 b16 b21 b22 b25 b28 b31 x29 x30 x35 x36 x41 x42 W3 h hs => by rw [hJE] at h ⊢; exact h.next hs
  have H9 : Hid (∀ (W : World) (b9 b10 b15 b16 b21 b22 b25 b28 b31 : Bool) (x29 x30 x35 x36 x41 x42 : Value), J W b9 b10 b15 b16 b21 b22 b25 b28 b31 x29 x30 x35 x36 x41 x42 → J (W.alloc (.cells #[.string ⟨c_s.toArray⟩, .string ⟨c_p.toArray⟩, .int .i64 c_n, .bool c_v0, .string ⟨c_l0.toArray⟩, .bool c_v1, .string ⟨c_l1.toArray⟩, .bool c_v2, .string ⟨c_l2.toArray⟩, .bool c_v3, .string ⟨c_l3.toArray⟩] 33)) true b10 b15 b16 b21 b22 b25 b28 b31 (.slice (some ⟨W.heap.size, 0, none⟩) 1 1) x30 x35 x36 x41 x42) :=
    fun W b9 b10 b15 b16 b21 b22 b25 b28 b31 x29 x30 x35 x36 x41 x42 h => by rw [hJE] at h ⊢; exact h.at9
  have H15 : Hid (∀ (W : World) (b9 b10 b15 b16 b21 b22 b25 b28 b31 : Bool) (x29 x30 x35 x36 x41 x42 : Value), J W b9 b10 b15 b16 b21 b22 b25 b28 b31 x29 x30 x35 x36 x41 x42 → J (W.alloc (.cells #[nilR] 48)) b9 b10 true b16 b21 b22 b25 b28 b31 x29 x30 (.slice (some ⟨W.heap.size, 0, none⟩) 1 1) x36 x41 x42) :=
    fun W b9 b10 b15 b16 b21 b22 b25 b28 b31 x29 x30 x35 x36 x41 x42 h => by rw [hJE] at h ⊢; exact h.at15
  have H21 : Hid (∀ (W : World) (b9 b10 b15 b16 b21 b22 b25 b28 b31 : Bool) (x29 x30 x35 x36 x41 x42 : Value), J W b9 b10 b15 b16 b21 b22 b25 b28 b31 x29 x30 x35 x36 x41 x42 → J (W.alloc (.cells #[nilR] 54)) b9 b10 b15 b16 true b22 b25 b28 b31 x29 x30 x35 x36 (.slice (some ⟨W.heap.size, 0, none⟩) 1 1) x42) :=
    fun W b9 b10 b15 b16 b21 b22 b25 b28 b31 x29 x30 x35 x36 x41 x42 h => by rw [hJE] at h ⊢; exact h.at21
  have H10 : Hid (∀ (W : World) (b15 b16 b21 b22 b25 b28 b31 : Bool) (x29 x30 x35 x36 x41 x42 : Value) (v : Value) (W3 : World), J W true false b15 b16 b21 b22 b25 b28 b31 x29 x30 x35 x36 x41 x42 → W.grownBy W3 (Value.ownBlock (.slice sa n sc)) → W3.ownsRow D 33 11 v (n + 1) (((S.map fun c => c.1).flatMap atmL) ++ (#[.string ⟨c_s.toArray⟩, .string ⟨c_p.toArray⟩, .int .i64 c_n, .bool c_v0, .string ⟨c_l0.toArray⟩, .bool c_v1, .string ⟨c_l1.toArray⟩, .bool c_v2, .string ⟨c_l2.toArray⟩, .bool c_v3, .string ⟨c_l3.toArray⟩] : Array Value).toList) → (v.ownBlock = Value.ownBlock (.slice sa n sc) ∨ v.ownBlock = some W.heap.size) → J W3 true true b15 b16 b21 b22 b25 b28 b31 x29 v x35 x36 x41 x42) :=
    fun W b15 b16 b21 b22 b25 b28 b31 x29 x30 x35 x36 x41 x42 v W3 h y1 y2 y3 => by rw [hJE] at h ⊢; exact h.at10 y1 (by rw [← hn.out]; exact y2) y3
  have H16 : Hid (∀ (W : World) (b9 b10 b21 b22 b25 b28 b31 : Bool) (x29 x30 x35 x36 x41 x42 : Value) (v : Value) (W3 : World), J W b9 b10 true false b21 b22 b25 b28 b31 x29 x30 x35 x36 x41 x42 → W.grownBy W3 (Value.ownBlock (.slice ga n gc)) → W3.ownsRow D 48 1 v (n + 1) ((GL.flatMap fun p => [p.2]) ++ [nilR]) → (v.ownBlock = Value.ownBlock (.slice ga n gc) ∨ v.ownBlock = some W.heap.size) → J W3 b9 b10 true true b21 b22 b25 b28 b31 x29 x30 x35 v x41 x42) :=
    fun W b9 b10 b21 b22 b25 b28 b31 x29 x30 x35 x36 x41 x42 v W3 h y1 y2 y3 => by rw [hJE] at h ⊢; exact h.at16 y1 (by rw [h0.glen, ← hn.out]; exact y2) y3
  have H22 : Hid (∀ (W : World) (b9 b10 b15 b16 b25 b28 b31 : Bool) (x29 x30 x35 x36 x41 x42 : Value) (v : Value) (W3 : World), J W b9 b10 b15 b16 true false b25 b28 b31 x29 x30 x35 x36 x41 x42 → W.grownBy W3 (Value.ownBlock (.slice wa n wc)) → W3.ownsRow D 54 1 v (n + 1) ((WL.flatMap fun p => [p.2]) ++ [nilR]) → (v.ownBlock = Value.ownBlock (.slice wa n wc) ∨ v.ownBlock = some W.heap.size) → J W3 b9 b10 b15 b16 true true b25 b28 b31 x29 x30 x35 x36 x41 v) :=
    fun W b9 b10 b15 b16 b25 b28 b31 x29 x30 x35 x36 x41 x42 v W3 h y1 y2 y3 => by rw [hJE] at h ⊢; exact h.at22 y1 (by rw [h0.wlen, ← hn.out]; exact y2) y3
  have H25 : Hid (∀ (W : World) (b9 b15 b16 b21 b22 b28 b31 : Bool) (x29 x30 x35 x36 x41 x42 : Value), J W b9 true b15 b16 b21 b22 false b28 b31 x29 x30 x35 x36 x41 x42 → J (W.setCell ⟨r, 0, none⟩ x30) b9 true b15 b16 b21 b22 true b28 b31 x29 x30 x35 x36 x41 x42) :=
    fun W b9 b15 b16 b21 b22 b28 b31 x29 x30 x35 x36 x41 x42 h => by rw [hJE] at h ⊢; exact h.st25
  have H28 : Hid (∀ (W : World) (b9 b10 b15 b21 b22 b25 b31 : Bool) (x29 x30 x35 x36 x41 x42 : Value), J W b9 b10 b15 true b21 b22 b25 false b31 x29 x30 x35 x36 x41 x42 → J (W.setCell ⟨r, 1, none⟩ x36) b9 b10 b15 true b21 b22 b25 true b31 x29 x30 x35 x36 x41 x42) :=
    fun W b9 b10 b15 b21 b22 b25 b31 x29 x30 x35 x36 x41 x42 h => by rw [hJE] at h ⊢; exact h.st28
  have H31 : Hid (∀ (W : World) (b9 b10 b15 b16 b21 b25 b28 : Bool) (x29 x30 x35 x36 x41 x42 : Value), J W b9 b10 b15 b16 b21 true b25 b28 false x29 x30 x35 x36 x41 x42 → J (W.setCell ⟨r, 2, none⟩ x42) b9 b10 b15 b16 b21 true b25 b28 true x29 x30 x35 x36 x41 x42) :=
    fun W b9 b10 b15 b16 b21 b25 b28 x29 x30 x35 x36 x41 x42 h => by rw [hJE] at h ⊢; exact h.st31
  have HBX : Hid (∀ (W : World) (b9 b10 b15 b16 b21 b22 b25 b28 b31 : Bool) (x29 x30 x35 x36 x41 x42 : Value), J W b9 b10 b15 b16 b21 b22 b25 b28 b31 x29 x30 x35 x36 x41 x42 → b10 = false → At W gb 0 #[.string ⟨a_s.toArray⟩, .string ⟨a_p.toArray⟩, .int .i64 a_n, .bool a_v0, .string ⟨a_l0.toArray⟩, .bool a_v1, .string ⟨a_l1.toArray⟩, .bool a_v2, .string ⟨a_l2.toArray⟩, .bool a_v3, .string ⟨a_l3.toArray⟩]) :=
    fun W b9 b10 b15 b16 b21 b22 b25 b28 b31 x29 x30 x35 x36 x41 x42 h e => by rw [hJE] at h; exact (h.box e).at
  have HC0 : Hid (∀ (W : World) (b9 b10 b15 b16 b21 b22 b25 b28 b31 : Bool) (x29 x30 x35 x36 x41 x42 : Value), J W b9 b10 b15 b16 b21 b22 b25 b28 b31 x29 x30 x35 x36 x41 x42 → b25 = false → W.cell? ⟨r, 0, none⟩ = some (.slice sa n sc)) :=
    fun W b9 b10 b15 b16 b21 b22 b25 b28 b31 x29 x30 x35 x36 x41 x42 h e => by rw [hJE] at h; have k := h.cel.cell 0; rw [e] at k; exact k
  have HC1 : Hid (∀ (W : World) (b9 b10 b15 b16 b21 b22 b25 b28 b31 : Bool) (x29 x30 x35 x36 x41 x42 : Value), J W b9 b10 b15 b16 b21 b22 b25 b28 b31 x29 x30 x35 x36 x41 x42 → b28 = false → W.cell? ⟨r, 1, none⟩ = some (.slice ga n gc)) :=
    fun W b9 b10 b15 b16 b21 b22 b25 b28 b31 x29 x30 x35 x36 x41 x42 h e => by rw [hJE] at h; have k := h.cel.cell 1; rw [e] at k; exact k
  have HC2 : Hid (∀ (W : World) (b9 b10 b15 b16 b21 b22 b25 b28 b31 : Bool) (x29 x30 x35 x36 x41 x42 : Value), J W b9 b10 b15 b16 b21 b22 b25 b28 b31 x29 x30 x35 x36 x41 x42 → b31 = false → W.cell? ⟨r, 2, none⟩ = some (.slice wa n wc)) :=
    fun W b9 b10 b15 b16 b21 b22 b25 b28 b31 x29 x30 x35 x36 x41 x42 h e => by rw [hJE] at h; have k := h.cel.cell 2; rw [e] at k; exact k
  have HCL : Hid (∀ (W : World) (b9 b10 b15 b16 b21 b22 b25 b28 b31 : Bool) (x29 x30 x35 x36 x41 x42 : Value), J W b9 b10 b15 b16 b21 b22 b25 b28 b31 x29 x30 x35 x36 x41 x42 → ∃ cs : Array Value, cs.size = 3 ∧ Cel W r cs 52) :=
    fun W b9 b10 b15 b16 b21 b22 b25 b28 b31 x29 x30 x35 x36 x41 x42 h => by rw [hJE] at h; exact ⟨_, rfl, h.cel⟩
  have HSZ : Hid (∀ (W : World) (b9 b10 b15 b16 b21 b22 b25 b28 b31 : Bool) (x29 x30 x35 x36 x41 x42 : Value), J W b9 b10 b15 b16 b21 b22 b25 b28 b31 x29 x30 x35 x36 x41 x42 → D ≤ W.heap.size) :=
    fun W b9 b10 b15 b16 b21 b22 b25 b28 b31 x29 x30 x35 x36 x41 x42 h => by rw [hJE] at h; exact Nat.le_trans hD h.keep.size
  have HF29 : Hid (∀ (W : World) (b15 b16 b21 b22 b25 b28 b31 : Bool) (x29 x30 x35 x36 x41 x42 : Value), J W true false b15 b16 b21 b22 b25 b28 b31 x29 x30 x35 x36 x41 x42 → ∃ g, x29 = .slice (some ⟨g, 0, none⟩) 1 1 ∧ Cel W g #[.string ⟨c_s.toArray⟩, .string ⟨c_p.toArray⟩, .int .i64 c_n, .bool c_v0, .string ⟨c_l0.toArray⟩, .bool c_v1, .string ⟨c_l1.toArray⟩, .bool c_v2, .string ⟨c_l2.toArray⟩, .bool c_v3, .string ⟨c_l3.toArray⟩] 33) :=
    fun W b15 b16 b21 b22 b25 b28 b31 x29 x30 x35 x36 x41 x42 h => by rw [hJE] at h; exact h.f29 rfl rfl
  have HF35 : Hid (∀ (W : World) (b9 b10 b21 b22 b25 b28 b31 : Bool) (x29 x30 x35 x36 x41 x42 : Value), J W b9 b10 true false b21 b22 b25 b28 b31 x29 x30 x35 x36 x41 x42 → ∃ g, x35 = .slice (some ⟨g, 0, none⟩) 1 1 ∧ Cel W g #[nilR] 48) :=
    fun W b9 b10 b21 b22 b25 b28 b31 x29 x30 x35 x36 x41 x42 h => by rw [hJE] at h; exact h.f35 rfl rfl
  have HF41 : Hid (∀ (W : World) (b9 b10 b15 b16 b25 b28 b31 : Bool) (x29 x30 x35 x36 x41 x42 : Value), J W b9 b10 b15 b16 true false b25 b28 b31 x29 x30 x35 x36 x41 x42 → ∃ g, x41 = .slice (some ⟨g, 0, none⟩) 1 1 ∧ Cel W g #[nilR] 54) :=
    fun W b9 b10 b15 b16 b25 b28 b31 x29 x30 x35 x36 x41 x42 h => by rw [hJE] at h; exact h.f41 rfl rfl
  have HRA : Hid (∀ (W : World) (b9 b15 b16 b21 b22 b25 b28 b31 : Bool) (x29 x30 x35 x36 x41 x42 : Value), J W b9 false b15 b16 b21 b22 b25 b28 b31 x29 x30 x35 x36 x41 x42 → W.ownsRow D 33 11 (.slice sa n sc) n ((S.map fun c => c.1).flatMap atmL)) :=
    fun W b9 b15 b16 b21 b22 b25 b28 b31 x29 x30 x35 x36 x41 x42 h => by rw [hJE] at h; rw [hn.out]; exact hn.out ▸ h.atoms
  have HRG : Hid (∀ (W : World) (b9 b10 b15 b21 b22 b25 b28 b31 : Bool) (x29 x30 x35 x36 x41 x42 : Value), J W b9 b10 b15 false b21 b22 b25 b28 b31 x29 x30 x35 x36 x41 x42 → W.ownsRow D 48 1 (.slice ga n gc) n (GL.flatMap fun p => [p.2])) :=
    fun W b9 b10 b15 b21 b22 b25 b28 b31 x29 x30 x35 x36 x41 x42 h => by rw [hJE] at h; have k := Nest.row h.got; exact hgl.out ▸ k
  have HRW : Hid (∀ (W : World) (b9 b10 b15 b16 b21 b25 b28 b31 : Bool) (x29 x30 x35 x36 x41 x42 : Value), J W b9 b10 b15 b16 b21 false b25 b28 b31 x29 x30 x35 x36 x41 x42 → W.ownsRow D 54 1 (.slice wa n wc) n (WL.flatMap fun p => [p.2])) :=
    fun W b9 b10 b15 b16 b21 b25 b28 b31 x29 x30 x35 x36 x41 x42 h => by rw [hJE] at h; have k := Nest.row h.who; exact hwl.out ▸ k
  have HSA : Hid (∀ (W : World) (b9 b15 b16 b21 b22 b25 b28 b31 : Bool) (x29 x30 x35 x36 x41 x42 : Value), J W b9 true b15 b16 b21 b22 b25 b28 b31 x29 x30 x35 x36 x41 x42 → ∃ a k, x30 = .slice a (n + 1) k) :=
    fun W b9 b15 b16 b21 b22 b25 b28 b31 x29 x30 x35 x36 x41 x42 h => by rw [hJE] at h; rw [hn.out]; exact own_slice h.atoms
  have HSG : Hid (∀ (W : World) (b9 b10 b15 b21 b22 b25 b28 b31 : Bool) (x29 x30 x35 x36 x41 x42 : Value), J W b9 b10 b15 true b21 b22 b25 b28 b31 x29 x30 x35 x36 x41 x42 → ∃ a k, x36 = .slice a (n + 1) k) :=
    fun W b9 b10 b15 b21 b22 b25 b28 b31 x29 x30 x35 x36 x41 x42 h => by rw [hJE] at h; have k : ∃ a k, x36 = .slice a (GL ++ [([], nilR)]).length k := own_slice (Nest.row h.got); rw [List.length_append, hgl.out] at k; exact k
  have HSW : Hid (∀ (W : World) (b9 b10 b15 b16 b21 b25 b28 b31 : Bool) (x29 x30 x35 x36 x41 x42 : Value), J W b9 b10 b15 b16 b21 true b25 b28 b31 x29 x30 x35 x36 x41 x42 → ∃ a k, x42 = .slice a (n + 1) k) :=
    fun W b9 b10 b15 b16 b21 b25 b28 b31 x29 x30 x35 x36 x41 x42 h => by rw [hJE] at h; have k : ∃ a k, x42 = .slice a (WL ++ [([], nilR)]).length k := own_slice (Nest.row h.who); rw [List.length_append, hwl.out] at k; exact k
  have HSA2 : Hid (∀ (W : World) (x29 x30 x35 x36 x41 x42 : Value), J W true true true true true true true true true x29 x30 x35 x36 x41 x42 → ∃ a k, x30 = .slice a (n + 1) k) :=
    fun W  x29 x30 x35 x36 x41 x42 h => by rw [hJE] at h; rw [hn.out]; exact own_slice h.atoms
  have HR0 : Hid (∀ (W : World) (x29 x30 x35 x36 x41 x42 : Value), J W true true true true true true true true true x29 x30 x35 x36 x41 x42 → W.cell? ⟨r, 0, none⟩ = some x30) :=
    fun W  x29 x30 x35 x36 x41 x42 h => by rw [hJE] at h; exact h.cel.cell 0
  have HEND : Hid (∀ (W : World) (x29 x30 x35 x36 x41 x42 : Value), J W true true true true true true true true true x29 x30 x35 x36 x41 x42 → Q W) :=
    fun W  x29 x30 x35 x36 x41 x42 h => by rw [hJE] at h; rw [← hQ2]; exact HFI.out W _ _ _ (h.end h0.gm h0.wm h0.low)
  clear hJE hJ0 h0 hb0 hD hQ2 HFI HQ HH HD0 aC hS hS0 hgb hgl hwl
  refine wp_region_invX (X := Value × Value × Value × Value × Value × Value × Value × Value × Value × Value × Value × Value × Value × Value × Value × Value × Value × Value × Value × Value × Value × Value × Value × Value × Value × Value × Value × Value × Value) (fun a0 x => match x with | (x20, x21, x22, x23, x24, x25, x26, x27, x28, x29, x30, x31, x32, x33, x34, x35, x36, x37, x38, x39, x40, x41, x42, x43, x44, x45, x46, x47, x48) => Act.put (Act.put (Act.put (Act.put (Act.put (Act.put (Act.put (Act.put (Act.put (Act.put (Act.put (Act.put (Act.put (Act.put (Act.put (Act.put (Act.put (Act.put (Act.put (Act.put (Act.put (Act.put (Act.put (Act.put (Act.put (Act.put (Act.put (Act.put (Act.put (a0) (some 20) x20) (some 21) x21) (some 22) x22) (some 23) x23) (some 24) x24) (some 25) x25) (some 26) x26) (some 27) x27) (some 28) x28) (some 29) x29) (some 30) x30) (some 31) x31) (some 32) x32) (some 33) x33) (some 34) x34) (some 35) x35) (some 36) x36) (some 37) x37) (some 38) x38) (some 39) x39) (some 40) x40) (some 41) x41) (some 42) x42) (some 43) x43) (some 44) x44) (some 45) x45) (some 46) x46) (some 47) x47) (some 48) x48) (fun x L W => match x with | (x20, x21, x22, x23, x24, x25, x26, x27, x28, x29, x30, x31, x32, x33, x34, x35, x36, x37, x38, x39, x40, x41, x42, x43, x44, x45, x46, x47, x48) => J W (L.getD 9 false) (L.getD 10 false) (L.getD 15 false) (L.getD 16 false) (L.getD 21 false) (L.getD 22 false) (L.getD 25 false) (L.getD 28 false) (L.getD 31 false) x29 x30 x35 x36 x41 x42 ∧ (L.getD 25 false = true → L.getD 6 false = true) ∧ (L.getD 28 false = true → L.getD 14 false = true) ∧ (L.getD 31 false = true → L.getD 20 false = true) ∧ (L.getD 10 false = true → L.getD 7 false = true) ∧ (L.getD 8 false = true → L.getD 7 false = true) ∧ (L.getD 0 false = true → x20 = .pointer (some ⟨r, 0, none⟩)) ∧ (L.getD 1 false = true → x21 = .pointer (some ⟨r, 0, none⟩)) ∧ (L.getD 2 false = true → x22 = .pointer (some ⟨r, 0, none⟩)) ∧ (L.getD 3 false = true → x23 = .pointer (some ⟨r, 0, none⟩)) ∧ (L.getD 4 false = true → x24 = .pointer (some ⟨r, 0, none⟩)) ∧ (L.getD 5 false = true → x25 = .pointer (some ⟨r, 0, none⟩)) ∧ (L.getD 6 false = true → x26 = .slice sa n sc) ∧ (L.getD 7 false = true → x27 = .agg #[.string ⟨a_s.toArray⟩, .string ⟨a_p.toArray⟩, .int .i64 a_n, .bool a_v0, .string ⟨a_l0.toArray⟩, .bool a_v1, .string ⟨a_l1.toArray⟩, .bool a_v2, .string ⟨a_l2.toArray⟩, .bool a_v3, .string ⟨a_l3.toArray⟩]) ∧ (L.getD 8 false = true → x28 = .agg #[.string ⟨c_s.toArray⟩, .string ⟨c_p.toArray⟩, .int .i64 c_n, .bool c_v0, .string ⟨c_l0.toArray⟩, .bool c_v1, .string ⟨c_l1.toArray⟩, .bool c_v2, .string ⟨c_l2.toArray⟩, .bool c_v3, .string ⟨c_l3.toArray⟩]) ∧ (L.getD 11 false = true → x31 = .pointer (some ⟨r, 0, none⟩)) ∧ (L.getD 12 false = true → x32 = .pointer (some ⟨r, 0, none⟩)) ∧ (L.getD 13 false = true → x33 = .pointer (some ⟨r, 1, none⟩)) ∧ (L.getD 14 false = true → x34 = .slice ga n gc) ∧ (L.getD 17 false = true → x37 = .pointer (some ⟨r, 0, none⟩)) ∧ (L.getD 18 false = true → x38 = .pointer (some ⟨r, 0, none⟩)) ∧ (L.getD 19 false = true → x39 = .pointer (some ⟨r, 2, none⟩)) ∧ (L.getD 20 false = true → x40 = .slice wa n wc) ∧ (L.getD 23 false = true → x43 = .pointer (some ⟨r, 0, none⟩)) ∧ (L.getD 24 false = true → x44 = .pointer (some ⟨r, 0, none⟩)) ∧ (L.getD 26 false = true → x45 = .pointer (some ⟨r, 0, none⟩)) ∧ (L.getD 27 false = true → x46 = .pointer (some ⟨r, 1, none⟩)) ∧ (L.getD 29 false = true → x47 = .pointer (some ⟨r, 0, none⟩)) ∧ (L.getD 30 false = true → x48 = .pointer (some ⟨r, 2, none⟩))) (by kernel_rfl) (by kernel_rfl) ?start ?steps ?stop
  case start => exact fun b v hv => ⟨(v 20, v 21, v 22, v 23, v 24, v 25, v 26, v 27, v 28, v 29, v 30, v 31, v 32, v 33, v 34, v 35, v 36, v 37, v 38, v 39, v 40, v 41, v 42, v 43, v 44, v 45, v 46, v 47, v 48), (by simp only [hv]), (by simp only [rep_f]; exact HJ0.out _ _ _ _ _ _), fun h => none_yet h, fun h => none_yet h, fun h => none_yet h, fun h => none_yet h, fun h => none_yet h, fun h => none_yet h, fun h => none_yet h, fun h => none_yet h, fun h => none_yet h, fun h => none_yet h, fun h => none_yet h, fun h => none_yet h, fun h => none_yet h, fun h => none_yet h, fun h => none_yet h, fun h => none_yet h, fun h => none_yet h, fun h => none_yet h, fun h => none_yet h, fun h => none_yet h, fun h => none_yet h, fun h => none_yet h, fun h => none_yet h, fun h => none_yet h, fun h => none_yet h, fun h => none_yet h, fun h => none_yet h, fun h => none_yet h⟩
  case steps =>
    refine ⟨⟨rfl, ?_⟩, ⟨rfl, ?_⟩, ⟨rfl, ?_⟩, ⟨rfl, ?_⟩, ⟨rfl, ?_⟩, ⟨rfl, ?_⟩, ⟨rfl, ?_⟩, ⟨rfl, ?_⟩, ⟨rfl, ?_⟩, ⟨rfl, ?_⟩, ⟨rfl, ?_⟩, ⟨rfl, ?_⟩, ⟨rfl, ?_⟩, ⟨rfl, ?_⟩, ⟨rfl, ?_⟩, ⟨rfl, ?_⟩, ⟨rfl, ?_⟩, ⟨rfl, ?_⟩, ⟨rfl, ?_⟩, ⟨rfl, ?_⟩, ⟨rfl, ?_⟩, ⟨rfl, ?_⟩, ⟨rfl, ?_⟩, ⟨rfl, ?_⟩, ⟨rfl, ?_⟩, ⟨rfl, ?_⟩, ⟨rfl, ?_⟩, ⟨rfl, ?_⟩, ⟨rfl, ?_⟩, ⟨rfl, ?_⟩, ⟨rfl, ?_⟩, ⟨rfl, ?_⟩, trivial⟩
    · intro L x W hF hlt hk hd K' hK
      obtain ⟨x20, x21, x22, x23, x24, x25, x26, x27, x28, x29, x30, x31, x32, x33, x34, x35, x36, x37, x38, x39, x40, x41, x42, x43, x44, x45, x46, x47, x48⟩ := x
      obtain ⟨hJ, q25_6, q28_14, q31_20, q10_7, q8_7, f0, f1, f2, f3, f4, f5, f6, f7, f8, f11, f12, f13, f14, f17, f18, f19, f20, f23, f24, f26, f27, f29, f30⟩ := hF
      simp only [Act.put, List.setIfInBounds_toArray, List.set_cons_zero, List.set_cons_succ]
      refine sx_val (v := .pointer (some ⟨r, 0, none⟩)) (W' := W) rfl (by kernel_rfl) ?_
      refine kput (hK ((.pointer (some ⟨r, 0, none⟩)), x21, x22, x23, x24, x25, x26, x27, x28, x29, x30, x31, x32, x33, x34, x35, x36, x37, x38, x39, x40, x41, x42, x43, x44, x45, x46, x47, x48) W ⟨(by simp only [getD_set_ne (listed := L) false (show (0 : Nat) ≠ 9 by decide), getD_set_ne (listed := L) false (show (0 : Nat) ≠ 10 by decide), getD_set_ne (listed := L) false (show (0 : Nat) ≠ 15 by decide), getD_set_ne (listed := L) false (show (0 : Nat) ≠ 16 by decide), getD_set_ne (listed := L) false (show (0 : Nat) ≠ 21 by decide), getD_set_ne (listed := L) false (show (0 : Nat) ≠ 22 by decide), getD_set_ne (listed := L) false (show (0 : Nat) ≠ 25 by decide), getD_set_ne (listed := L) false (show (0 : Nat) ≠ 28 by decide), getD_set_ne (listed := L) false (show (0 : Nat) ≠ 31 by decide)]; exact hJ), fun h => getD_set_true (q25_6 (not_k h (by decide))), fun h => getD_set_true (q28_14 (not_k h (by decide))), fun h => getD_set_true (q31_20 (not_k h (by decide))), fun h => getD_set_true (q10_7 (not_k h (by decide))), fun h => getD_set_true (q8_7 (not_k h (by decide))), fun _ => rfl, fun h => f1 (not_k h (by decide)), fun h => f2 (not_k h (by decide)), fun h => f3 (not_k h (by decide)), fun h => f4 (not_k h (by decide)), fun h => f5 (not_k h (by decide)), fun h => f6 (not_k h (by decide)), fun h => f7 (not_k h (by decide)), fun h => f8 (not_k h (by decide)), fun h => f11 (not_k h (by decide)), fun h => f12 (not_k h (by decide)), fun h => f13 (not_k h (by decide)), fun h => f14 (not_k h (by decide)), fun h => f17 (not_k h (by decide)), fun h => f18 (not_k h (by decide)), fun h => f19 (not_k h (by decide)), fun h => f20 (not_k h (by decide)), fun h => f23 (not_k h (by decide)), fun h => f24 (not_k h (by decide)), fun h => f26 (not_k h (by decide)), fun h => f27 (not_k h (by decide)), fun h => f29 (not_k h (by decide)), fun h => f30 (not_k h (by decide))⟩) ?_
      simp only [Act.put, List.setIfInBounds_toArray, List.set_cons_zero, List.set_cons_succ]
    · intro L x W hF hlt hk hd K' hK
      obtain ⟨x20, x21, x22, x23, x24, x25, x26, x27, x28, x29, x30, x31, x32, x33, x34, x35, x36, x37, x38, x39, x40, x41, x42, x43, x44, x45, x46, x47, x48⟩ := x
      obtain ⟨hJ, q25_6, q28_14, q31_20, q10_7, q8_7, f0, f1, f2, f3, f4, f5, f6, f7, f8, f11, f12, f13, f14, f17, f18, f19, f20, f23, f24, f26, f27, f29, f30⟩ := hF
      simp only [Act.put, List.setIfInBounds_toArray, List.set_cons_zero, List.set_cons_succ]
      refine sx_val (v := .pointer (some ⟨r, 0, none⟩)) (W' := W) rfl (by kernel_rfl) ?_
      refine kput (hK (x20, (.pointer (some ⟨r, 0, none⟩)), x22, x23, x24, x25, x26, x27, x28, x29, x30, x31, x32, x33, x34, x35, x36, x37, x38, x39, x40, x41, x42, x43, x44, x45, x46, x47, x48) W ⟨(by simp only [getD_set_ne (listed := L) false (show (1 : Nat) ≠ 9 by decide), getD_set_ne (listed := L) false (show (1 : Nat) ≠ 10 by decide), getD_set_ne (listed := L) false (show (1 : Nat) ≠ 15 by decide), getD_set_ne (listed := L) false (show (1 : Nat) ≠ 16 by decide), getD_set_ne (listed := L) false (show (1 : Nat) ≠ 21 by decide), getD_set_ne (listed := L) false (show (1 : Nat) ≠ 22 by decide), getD_set_ne (listed := L) false (show (1 : Nat) ≠ 25 by decide), getD_set_ne (listed := L) false (show (1 : Nat) ≠ 28 by decide), getD_set_ne (listed := L) false (show (1 : Nat) ≠ 31 by decide)]; exact hJ), fun h => getD_set_true (q25_6 (not_k h (by decide))), fun h => getD_set_true (q28_14 (not_k h (by decide))), fun h => getD_set_true (q31_20 (not_k h (by decide))), fun h => getD_set_true (q10_7 (not_k h (by decide))), fun h => getD_set_true (q8_7 (not_k h (by decide))), fun h => f0 (not_k h (by decide)), fun _ => rfl, fun h => f2 (not_k h (by decide)), fun h => f3 (not_k h (by decide)), fun h => f4 (not_k h (by decide)), fun h => f5 (not_k h (by decide)), fun h => f6 (not_k h (by decide)), fun h => f7 (not_k h (by decide)), fun h => f8 (not_k h (by decide)), fun h => f11 (not_k h (by decide)), fun h => f12 (not_k h (by decide)), fun h => f13 (not_k h (by decide)), fun h => f14 (not_k h (by decide)), fun h => f17 (not_k h (by decide)), fun h => f18 (not_k h (by decide)), fun h => f19 (not_k h (by decide)), fun h => f20 (not_k h (by decide)), fun h => f23 (not_k h (by decide)), fun h => f24 (not_k h (by decide)), fun h => f26 (not_k h (by decide)), fun h => f27 (not_k h (by decide)), fun h => f29 (not_k h (by decide)), fun h => f30 (not_k h (by decide))⟩) ?_
      simp only [Act.put, List.setIfInBounds_toArray, List.set_cons_zero, List.set_cons_succ]
    · intro L x W hF hlt hk hd K' hK
      obtain ⟨x20, x21, x22, x23, x24, x25, x26, x27, x28, x29, x30, x31, x32, x33, x34, x35, x36, x37, x38, x39, x40, x41, x42, x43, x44, x45, x46, x47, x48⟩ := x
      obtain ⟨hJ, q25_6, q28_14, q31_20, q10_7, q8_7, f0, f1, f2, f3, f4, f5, f6, f7, f8, f11, f12, f13, f14, f17, f18, f19, f20, f23, f24, f26, f27, f29, f30⟩ := hF
      simp only [Act.put, List.setIfInBounds_toArray, List.set_cons_zero, List.set_cons_succ]
      refine sx_val (v := .pointer (some ⟨r, 0, none⟩)) (W' := W) rfl (by kernel_rfl) ?_
      refine kput (hK (x20, x21, (.pointer (some ⟨r, 0, none⟩)), x23, x24, x25, x26, x27, x28, x29, x30, x31, x32, x33, x34, x35, x36, x37, x38, x39, x40, x41, x42, x43, x44, x45, x46, x47, x48) W ⟨(by simp only [getD_set_ne (listed := L) false (show (2 : Nat) ≠ 9 by decide), getD_set_ne (listed := L) false (show (2 : Nat) ≠ 10 by decide), getD_set_ne (listed := L) false (show (2 : Nat) ≠ 15 by decide), getD_set_ne (listed := L) false (show (2 : Nat) ≠ 16 by decide), getD_set_ne (listed := L) false (show (2 : Nat) ≠ 21 by decide), getD_set_ne (listed := L) false (show (2 : Nat) ≠ 22 by decide), getD_set_ne (listed := L) false (show (2 : Nat) ≠ 25 by decide), getD_set_ne (listed := L) false (show (2 : Nat) ≠ 28 by decide), getD_set_ne (listed := L) false (show (2 : Nat) ≠ 31 by decide)]; exact hJ), fun h => getD_set_true (q25_6 (not_k h (by decide))), fun h => getD_set_true (q28_14 (not_k h (by decide))), fun h => getD_set_true (q31_20 (not_k h (by decide))), fun h => getD_set_true (q10_7 (not_k h (by decide))), fun h => getD_set_true (q8_7 (not_k h (by decide))), fun h => f0 (not_k h (by decide)), fun h => f1 (not_k h (by decide)), fun _ => rfl, fun h => f3 (not_k h (by decide)), fun h => f4 (not_k h (by decide)), fun h => f5 (not_k h (by decide)), fun h => f6 (not_k h (by decide)), fun h => f7 (not_k h (by decide)), fun h => f8 (not_k h (by decide)), fun h => f11 (not_k h (by decide)), fun h => f12 (not_k h (by decide)), fun h => f13 (not_k h (by decide)), fun h => f14 (not_k h (by decide)), fun h => f17 (not_k h (by decide)), fun h => f18 (not_k h (by decide)), fun h => f19 (not_k h (by decide)), fun h => f20 (not_k h (by decide)), fun h => f23 (not_k h (by decide)), fun h => f24 (not_k h (by decide)), fun h => f26 (not_k h (by decide)), fun h => f27 (not_k h (by decide)), fun h => f29 (not_k h (by decide)), fun h => f30 (not_k h (by decide))⟩) ?_
      simp only [Act.put, List.setIfInBounds_toArray, List.set_cons_zero, List.set_cons_succ]
    · intro L x W hF hlt hk hd K' hK
      obtain ⟨x20, x21, x22, x23, x24, x25, x26, x27, x28, x29, x30, x31, x32, x33, x34, x35, x36, x37, x38, x39, x40, x41, x42, x43, x44, x45, x46, x47, x48⟩ := x
      obtain ⟨hJ, q25_6, q28_14, q31_20, q10_7, q8_7, f0, f1, f2, f3, f4, f5, f6, f7, f8, f11, f12, f13, f14, f17, f18, f19, f20, f23, f24, f26, f27, f29, f30⟩ := hF
      simp only [Act.put, List.setIfInBounds_toArray, List.set_cons_zero, List.set_cons_succ]
      refine sx_val (v := .pointer (some ⟨r, 0, none⟩)) (W' := W) rfl (by kernel_rfl) ?_
      refine kput (hK (x20, x21, x22, (.pointer (some ⟨r, 0, none⟩)), x24, x25, x26, x27, x28, x29, x30, x31, x32, x33, x34, x35, x36, x37, x38, x39, x40, x41, x42, x43, x44, x45, x46, x47, x48) W ⟨(by simp only [getD_set_ne (listed := L) false (show (3 : Nat) ≠ 9 by decide), getD_set_ne (listed := L) false (show (3 : Nat) ≠ 10 by decide), getD_set_ne (listed := L) false (show (3 : Nat) ≠ 15 by decide), getD_set_ne (listed := L) false (show (3 : Nat) ≠ 16 by decide), getD_set_ne (listed := L) false (show (3 : Nat) ≠ 21 by decide), getD_set_ne (listed := L) false (show (3 : Nat) ≠ 22 by decide), getD_set_ne (listed := L) false (show (3 : Nat) ≠ 25 by decide), getD_set_ne (listed := L) false (show (3 : Nat) ≠ 28 by decide), getD_set_ne (listed := L) false (show (3 : Nat) ≠ 31 by decide)]; exact hJ), fun h => getD_set_true (q25_6 (not_k h (by decide))), fun h => getD_set_true (q28_14 (not_k h (by decide))), fun h => getD_set_true (q31_20 (not_k h (by decide))), fun h => getD_set_true (q10_7 (not_k h (by decide))), fun h => getD_set_true (q8_7 (not_k h (by decide))), fun h => f0 (not_k h (by decide)), fun h => f1 (not_k h (by decide)), fun h => f2 (not_k h (by decide)), fun _ => rfl, fun h => f4 (not_k h (by decide)), fun h => f5 (not_k h (by decide)), fun h => f6 (not_k h (by decide)), fun h => f7 (not_k h (by decide)), fun h => f8 (not_k h (by decide)), fun h => f11 (not_k h (by decide)), fun h => f12 (not_k h (by decide)), fun h => f13 (not_k h (by decide)), fun h => f14 (not_k h (by decide)), fun h => f17 (not_k h (by decide)), fun h => f18 (not_k h (by decide)), fun h => f19 (not_k h (by decide)), fun h => f20 (not_k h (by decide)), fun h => f23 (not_k h (by decide)), fun h => f24 (not_k h (by decide)), fun h => f26 (not_k h (by decide)), fun h => f27 (not_k h (by decide)), fun h => f29 (not_k h (by decide)), fun h => f30 (not_k h (by decide))⟩) ?_
      simp only [Act.put, List.setIfInBounds_toArray, List.set_cons_zero, List.set_cons_succ]
    · intro L x W hF hlt hk hd K' hK
      obtain ⟨x20, x21, x22, x23, x24, x25, x26, x27, x28, x29, x30, x31, x32, x33, x34, x35, x36, x37, x38, x39, x40, x41, x42, x43, x44, x45, x46, x47, x48⟩ := x
      obtain ⟨hJ, q25_6, q28_14, q31_20, q10_7, q8_7, f0, f1, f2, f3, f4, f5, f6, f7, f8, f11, f12, f13, f14, f17, f18, f19, f20, f23, f24, f26, f27, f29, f30⟩ := hF
      have d3 : L.getD 3 false = true := dep_of hd 3 (by rfl)
      obtain rfl := (f3 d3).symm
      simp only [Act.put, List.setIfInBounds_toArray, List.set_cons_zero, List.set_cons_succ]
      refine sx_val (v := .pointer (some ⟨r, 0, none⟩)) (W' := W) rfl (by kernel_rfl) ?_
      refine kput (hK (x20, x21, x22, (.pointer (some ⟨r, 0, none⟩)), (.pointer (some ⟨r, 0, none⟩)), x25, x26, x27, x28, x29, x30, x31, x32, x33, x34, x35, x36, x37, x38, x39, x40, x41, x42, x43, x44, x45, x46, x47, x48) W ⟨(by simp only [getD_set_ne (listed := L) false (show (4 : Nat) ≠ 9 by decide), getD_set_ne (listed := L) false (show (4 : Nat) ≠ 10 by decide), getD_set_ne (listed := L) false (show (4 : Nat) ≠ 15 by decide), getD_set_ne (listed := L) false (show (4 : Nat) ≠ 16 by decide), getD_set_ne (listed := L) false (show (4 : Nat) ≠ 21 by decide), getD_set_ne (listed := L) false (show (4 : Nat) ≠ 22 by decide), getD_set_ne (listed := L) false (show (4 : Nat) ≠ 25 by decide), getD_set_ne (listed := L) false (show (4 : Nat) ≠ 28 by decide), getD_set_ne (listed := L) false (show (4 : Nat) ≠ 31 by decide)]; exact hJ), fun h => getD_set_true (q25_6 (not_k h (by decide))), fun h => getD_set_true (q28_14 (not_k h (by decide))), fun h => getD_set_true (q31_20 (not_k h (by decide))), fun h => getD_set_true (q10_7 (not_k h (by decide))), fun h => getD_set_true (q8_7 (not_k h (by decide))), fun h => f0 (not_k h (by decide)), fun h => f1 (not_k h (by decide)), fun h => f2 (not_k h (by decide)), fun h => f3 (not_k h (by decide)), fun _ => rfl, fun h => f5 (not_k h (by decide)), fun h => f6 (not_k h (by decide)), fun h => f7 (not_k h (by decide)), fun h => f8 (not_k h (by decide)), fun h => f11 (not_k h (by decide)), fun h => f12 (not_k h (by decide)), fun h => f13 (not_k h (by decide)), fun h => f14 (not_k h (by decide)), fun h => f17 (not_k h (by decide)), fun h => f18 (not_k h (by decide)), fun h => f19 (not_k h (by decide)), fun h => f20 (not_k h (by decide)), fun h => f23 (not_k h (by decide)), fun h => f24 (not_k h (by decide)), fun h => f26 (not_k h (by decide)), fun h => f27 (not_k h (by decide)), fun h => f29 (not_k h (by decide)), fun h => f30 (not_k h (by decide))⟩) ?_
      simp only [Act.put, List.setIfInBounds_toArray, List.set_cons_zero, List.set_cons_succ]
    · intro L x W hF hlt hk hd K' hK
      obtain ⟨x20, x21, x22, x23, x24, x25, x26, x27, x28, x29, x30, x31, x32, x33, x34, x35, x36, x37, x38, x39, x40, x41, x42, x43, x44, x45, x46, x47, x48⟩ := x
      obtain ⟨hJ, q25_6, q28_14, q31_20, q10_7, q8_7, f0, f1, f2, f3, f4, f5, f6, f7, f8, f11, f12, f13, f14, f17, f18, f19, f20, f23, f24, f26, f27, f29, f30⟩ := hF
      have d4 : L.getD 4 false = true := dep_of hd 4 (by rfl)
      obtain rfl := (f4 d4).symm
      simp only [Act.put, List.setIfInBounds_toArray, List.set_cons_zero, List.set_cons_succ]
      refine sx_val (v := .pointer (some ⟨r, 0, none⟩)) (W' := W) rfl (by kernel_rfl) ?_
      refine kput (hK (x20, x21, x22, x23, (.pointer (some ⟨r, 0, none⟩)), (.pointer (some ⟨r, 0, none⟩)), x26, x27, x28, x29, x30, x31, x32, x33, x34, x35, x36, x37, x38, x39, x40, x41, x42, x43, x44, x45, x46, x47, x48) W ⟨(by simp only [getD_set_ne (listed := L) false (show (5 : Nat) ≠ 9 by decide), getD_set_ne (listed := L) false (show (5 : Nat) ≠ 10 by decide), getD_set_ne (listed := L) false (show (5 : Nat) ≠ 15 by decide), getD_set_ne (listed := L) false (show (5 : Nat) ≠ 16 by decide), getD_set_ne (listed := L) false (show (5 : Nat) ≠ 21 by decide), getD_set_ne (listed := L) false (show (5 : Nat) ≠ 22 by decide), getD_set_ne (listed := L) false (show (5 : Nat) ≠ 25 by decide), getD_set_ne (listed := L) false (show (5 : Nat) ≠ 28 by decide), getD_set_ne (listed := L) false (show (5 : Nat) ≠ 31 by decide)]; exact hJ), fun h => getD_set_true (q25_6 (not_k h (by decide))), fun h => getD_set_true (q28_14 (not_k h (by decide))), fun h => getD_set_true (q31_20 (not_k h (by decide))), fun h => getD_set_true (q10_7 (not_k h (by decide))), fun h => getD_set_true (q8_7 (not_k h (by decide))), fun h => f0 (not_k h (by decide)), fun h => f1 (not_k h (by decide)), fun h => f2 (not_k h (by decide)), fun h => f3 (not_k h (by decide)), fun h => f4 (not_k h (by decide)), fun _ => rfl, fun h => f6 (not_k h (by decide)), fun h => f7 (not_k h (by decide)), fun h => f8 (not_k h (by decide)), fun h => f11 (not_k h (by decide)), fun h => f12 (not_k h (by decide)), fun h => f13 (not_k h (by decide)), fun h => f14 (not_k h (by decide)), fun h => f17 (not_k h (by decide)), fun h => f18 (not_k h (by decide)), fun h => f19 (not_k h (by decide)), fun h => f20 (not_k h (by decide)), fun h => f23 (not_k h (by decide)), fun h => f24 (not_k h (by decide)), fun h => f26 (not_k h (by decide)), fun h => f27 (not_k h (by decide)), fun h => f29 (not_k h (by decide)), fun h => f30 (not_k h (by decide))⟩) ?_
      simp only [Act.put, List.setIfInBounds_toArray, List.set_cons_zero, List.set_cons_succ]
    · intro L x W hF hlt hk hd K' hK
      obtain ⟨x20, x21, x22, x23, x24, x25, x26, x27, x28, x29, x30, x31, x32, x33, x34, x35, x36, x37, x38, x39, x40, x41, x42, x43, x44, x45, x46, x47, x48⟩ := x
      obtain ⟨hJ, q25_6, q28_14, q31_20, q10_7, q8_7, f0, f1, f2, f3, f4, f5, f6, f7, f8, f11, f12, f13, f14, f17, f18, f19, f20, f23, f24, f26, f27, f29, f30⟩ := hF
      have d5 : L.getD 5 false = true := dep_of hd 5 (by rfl)
      obtain rfl := (f5 d5).symm
      have y7 : L.getD 25 false = false := by cases hc : L.getD 25 false with | false => rfl | true => exact absurd ((q25_6 hc).symm.trans hk) (by decide)
      simp only [Act.put, List.setIfInBounds_toArray, List.set_cons_zero, List.set_cons_succ]
      refine sx_val (v := .slice sa n sc) (W' := W) rfl (ld_one rfl (by rfl) (by kernel_rfl) W (HC0.out _ _ _ _ _ _ _ _ _ _ _ _ _ _ _ _ hJ y7)) ?_
      refine kput (hK (x20, x21, x22, x23, x24, (.pointer (some ⟨r, 0, none⟩)), (.slice sa n sc), x27, x28, x29, x30, x31, x32, x33, x34, x35, x36, x37, x38, x39, x40, x41, x42, x43, x44, x45, x46, x47, x48) W ⟨(by simp only [getD_set_ne (listed := L) false (show (6 : Nat) ≠ 9 by decide), getD_set_ne (listed := L) false (show (6 : Nat) ≠ 10 by decide), getD_set_ne (listed := L) false (show (6 : Nat) ≠ 15 by decide), getD_set_ne (listed := L) false (show (6 : Nat) ≠ 16 by decide), getD_set_ne (listed := L) false (show (6 : Nat) ≠ 21 by decide), getD_set_ne (listed := L) false (show (6 : Nat) ≠ 22 by decide), getD_set_ne (listed := L) false (show (6 : Nat) ≠ 25 by decide), getD_set_ne (listed := L) false (show (6 : Nat) ≠ 28 by decide), getD_set_ne (listed := L) false (show (6 : Nat) ≠ 31 by decide)]; exact hJ), fun h => getD_set_true (q25_6 (not_k h (by decide))), fun h => getD_set_true (q28_14 (not_k h (by decide))), fun h => getD_set_true (q31_20 (not_k h (by decide))), fun h => getD_set_true (q10_7 (not_k h (by decide))), fun h => getD_set_true (q8_7 (not_k h (by decide))), fun h => f0 (not_k h (by decide)), fun h => f1 (not_k h (by decide)), fun h => f2 (not_k h (by decide)), fun h => f3 (not_k h (by decide)), fun h => f4 (not_k h (by decide)), fun h => f5 (not_k h (by decide)), fun _ => rfl, fun h => f7 (not_k h (by decide)), fun h => f8 (not_k h (by decide)), fun h => f11 (not_k h (by decide)), fun h => f12 (not_k h (by decide)), fun h => f13 (not_k h (by decide)), fun h => f14 (not_k h (by decide)), fun h => f17 (not_k h (by decide)), fun h => f18 (not_k h (by decide)), fun h => f19 (not_k h (by decide)), fun h => f20 (not_k h (by decide)), fun h => f23 (not_k h (by decide)), fun h => f24 (not_k h (by decide)), fun h => f26 (not_k h (by decide)), fun h => f27 (not_k h (by decide)), fun h => f29 (not_k h (by decide)), fun h => f30 (not_k h (by decide))⟩) ?_
      simp only [Act.put, List.setIfInBounds_toArray, List.set_cons_zero, List.set_cons_succ]
    · intro L x W hF hlt hk hd K' hK
      obtain ⟨x20, x21, x22, x23, x24, x25, x26, x27, x28, x29, x30, x31, x32, x33, x34, x35, x36, x37, x38, x39, x40, x41, x42, x43, x44, x45, x46, x47, x48⟩ := x
      obtain ⟨hJ, q25_6, q28_14, q31_20, q10_7, q8_7, f0, f1, f2, f3, f4, f5, f6, f7, f8, f11, f12, f13, f14, f17, f18, f19, f20, f23, f24, f26, f27, f29, f30⟩ := hF
      have y7 : L.getD 10 false = false := by cases hc : L.getD 10 false with | false => rfl | true => exact absurd ((q10_7 hc).symm.trans hk) (by decide)
      simp only [Act.put, List.setIfInBounds_toArray, List.set_cons_zero, List.set_cons_succ]
      refine sx_val (v := .agg #[.string ⟨a_s.toArray⟩, .string ⟨a_p.toArray⟩, .int .i64 a_n, .bool a_v0, .string ⟨a_l0.toArray⟩, .bool a_v1, .string ⟨a_l1.toArray⟩, .bool a_v2, .string ⟨a_l2.toArray⟩, .bool a_v3, .string ⟨a_l3.toArray⟩]) (W' := W) rfl (ld_at rfl (by rfl) (by kernel_rfl) (by kernel_rfl) W (HBX.out _ _ _ _ _ _ _ _ _ _ _ _ _ _ _ _ hJ y7)) ?_
      refine kput (hK (x20, x21, x22, x23, x24, x25, x26, (.agg #[.string ⟨a_s.toArray⟩, .string ⟨a_p.toArray⟩, .int .i64 a_n, .bool a_v0, .string ⟨a_l0.toArray⟩, .bool a_v1, .string ⟨a_l1.toArray⟩, .bool a_v2, .string ⟨a_l2.toArray⟩, .bool a_v3, .string ⟨a_l3.toArray⟩]), x28, x29, x30, x31, x32, x33, x34, x35, x36, x37, x38, x39, x40, x41, x42, x43, x44, x45, x46, x47, x48) W ⟨(by simp only [getD_set_ne (listed := L) false (show (7 : Nat) ≠ 9 by decide), getD_set_ne (listed := L) false (show (7 : Nat) ≠ 10 by decide), getD_set_ne (listed := L) false (show (7 : Nat) ≠ 15 by decide), getD_set_ne (listed := L) false (show (7 : Nat) ≠ 16 by decide), getD_set_ne (listed := L) false (show (7 : Nat) ≠ 21 by decide), getD_set_ne (listed := L) false (show (7 : Nat) ≠ 22 by decide), getD_set_ne (listed := L) false (show (7 : Nat) ≠ 25 by decide), getD_set_ne (listed := L) false (show (7 : Nat) ≠ 28 by decide), getD_set_ne (listed := L) false (show (7 : Nat) ≠ 31 by decide)]; exact hJ), fun h => getD_set_true (q25_6 (not_k h (by decide))), fun h => getD_set_true (q28_14 (not_k h (by decide))), fun h => getD_set_true (q31_20 (not_k h (by decide))), fun h => getD_set_true (q10_7 (not_k h (by decide))), fun h => getD_set_true (q8_7 (not_k h (by decide))), fun h => f0 (not_k h (by decide)), fun h => f1 (not_k h (by decide)), fun h => f2 (not_k h (by decide)), fun h => f3 (not_k h (by decide)), fun h => f4 (not_k h (by decide)), fun h => f5 (not_k h (by decide)), fun h => f6 (not_k h (by decide)), fun _ => rfl, fun h => f8 (not_k h (by decide)), fun h => f11 (not_k h (by decide)), fun h => f12 (not_k h (by decide)), fun h => f13 (not_k h (by decide)), fun h => f14 (not_k h (by decide)), fun h => f17 (not_k h (by decide)), fun h => f18 (not_k h (by decide)), fun h => f19 (not_k h (by decide)), fun h => f20 (not_k h (by decide)), fun h => f23 (not_k h (by decide)), fun h => f24 (not_k h (by decide)), fun h => f26 (not_k h (by decide)), fun h => f27 (not_k h (by decide)), fun h => f29 (not_k h (by decide)), fun h => f30 (not_k h (by decide))⟩) ?_
      simp only [Act.put, List.setIfInBounds_toArray, List.set_cons_zero, List.set_cons_succ]
    · intro L x W hF hlt hk hd K' hK
      obtain ⟨x20, x21, x22, x23, x24, x25, x26, x27, x28, x29, x30, x31, x32, x33, x34, x35, x36, x37, x38, x39, x40, x41, x42, x43, x44, x45, x46, x47, x48⟩ := x
      obtain ⟨hJ, q25_6, q28_14, q31_20, q10_7, q8_7, f0, f1, f2, f3, f4, f5, f6, f7, f8, f11, f12, f13, f14, f17, f18, f19, f20, f23, f24, f26, f27, f29, f30⟩ := hF
      have d7 : L.getD 7 false = true := dep_of hd 7 (by rfl)
      obtain rfl := (f7 d7).symm
      simp only [Act.put, List.setIfInBounds_toArray, List.set_cons_zero, List.set_cons_succ]
      refine sx_call 34 #[.agg #[.string ⟨a_s.toArray⟩, .string ⟨a_p.toArray⟩, .int .i64 a_n, .bool a_v0, .string ⟨a_l0.toArray⟩, .bool a_v1, .string ⟨a_l1.toArray⟩, .bool a_v2, .string ⟨a_l2.toArray⟩, .bool a_v3, .string ⟨a_l3.toArray⟩]] rfl (by kernel_rfl) (HCA.out _) ?_
      rintro e w2 ⟨rfl, hb⟩
      replace hJ := HJN.out _ _ _ _ _ _ _ _ _ _ _ _ _ _ _ _ _ hJ hb
      refine ⟨_, rfl, ?_⟩
      refine kput (hK (x20, x21, x22, x23, x24, x25, x26, (.agg #[.string ⟨a_s.toArray⟩, .string ⟨a_p.toArray⟩, .int .i64 a_n, .bool a_v0, .string ⟨a_l0.toArray⟩, .bool a_v1, .string ⟨a_l1.toArray⟩, .bool a_v2, .string ⟨a_l2.toArray⟩, .bool a_v3, .string ⟨a_l3.toArray⟩]), (.agg #[.string ⟨c_s.toArray⟩, .string ⟨c_p.toArray⟩, .int .i64 c_n, .bool c_v0, .string ⟨c_l0.toArray⟩, .bool c_v1, .string ⟨c_l1.toArray⟩, .bool c_v2, .string ⟨c_l2.toArray⟩, .bool c_v3, .string ⟨c_l3.toArray⟩]), x29, x30, x31, x32, x33, x34, x35, x36, x37, x38, x39, x40, x41, x42, x43, x44, x45, x46, x47, x48) w2 ⟨(by simp only [getD_set_ne (listed := L) false (show (8 : Nat) ≠ 9 by decide), getD_set_ne (listed := L) false (show (8 : Nat) ≠ 10 by decide), getD_set_ne (listed := L) false (show (8 : Nat) ≠ 15 by decide), getD_set_ne (listed := L) false (show (8 : Nat) ≠ 16 by decide), getD_set_ne (listed := L) false (show (8 : Nat) ≠ 21 by decide), getD_set_ne (listed := L) false (show (8 : Nat) ≠ 22 by decide), getD_set_ne (listed := L) false (show (8 : Nat) ≠ 25 by decide), getD_set_ne (listed := L) false (show (8 : Nat) ≠ 28 by decide), getD_set_ne (listed := L) false (show (8 : Nat) ≠ 31 by decide)]; exact hJ), fun h => getD_set_true (q25_6 (not_k h (by decide))), fun h => getD_set_true (q28_14 (not_k h (by decide))), fun h => getD_set_true (q31_20 (not_k h (by decide))), fun h => getD_set_true (q10_7 (not_k h (by decide))), fun _ => getD_set_true (dep_of hd 7 (by rfl)), fun h => f0 (not_k h (by decide)), fun h => f1 (not_k h (by decide)), fun h => f2 (not_k h (by decide)), fun h => f3 (not_k h (by decide)), fun h => f4 (not_k h (by decide)), fun h => f5 (not_k h (by decide)), fun h => f6 (not_k h (by decide)), fun h => f7 (not_k h (by decide)), fun _ => rfl, fun h => f11 (not_k h (by decide)), fun h => f12 (not_k h (by decide)), fun h => f13 (not_k h (by decide)), fun h => f14 (not_k h (by decide)), fun h => f17 (not_k h (by decide)), fun h => f18 (not_k h (by decide)), fun h => f19 (not_k h (by decide)), fun h => f20 (not_k h (by decide)), fun h => f23 (not_k h (by decide)), fun h => f24 (not_k h (by decide)), fun h => f26 (not_k h (by decide)), fun h => f27 (not_k h (by decide)), fun h => f29 (not_k h (by decide)), fun h => f30 (not_k h (by decide))⟩) ?_
      simp only [Act.put, List.setIfInBounds_toArray, List.set_cons_zero, List.set_cons_succ]
    · intro L x W hF hlt hk hd K' hK
      obtain ⟨x20, x21, x22, x23, x24, x25, x26, x27, x28, x29, x30, x31, x32, x33, x34, x35, x36, x37, x38, x39, x40, x41, x42, x43, x44, x45, x46, x47, x48⟩ := x
      obtain ⟨hJ, q25_6, q28_14, q31_20, q10_7, q8_7, f0, f1, f2, f3, f4, f5, f6, f7, f8, f11, f12, f13, f14, f17, f18, f19, f20, f23, f24, f26, f27, f29, f30⟩ := hF
      have d8 : L.getD 8 false = true := dep_of hd 8 (by rfl)
      obtain rfl := (f8 d8).symm
      replace hJ := H9.out _ _ _ _ _ _ _ _ _ _ _ _ _ _ _ _ hJ
      simp only [Act.put, List.setIfInBounds_toArray, List.set_cons_zero, List.set_cons_succ]
      refine sx_val (v := .slice (some ⟨W.heap.size, 0, none⟩) 1 1) (W' := (W.alloc (.cells #[.string ⟨c_s.toArray⟩, .string ⟨c_p.toArray⟩, .int .i64 c_n, .bool c_v0, .string ⟨c_l0.toArray⟩, .bool c_v1, .string ⟨c_l1.toArray⟩, .bool c_v2, .string ⟨c_l2.toArray⟩, .bool c_v3, .string ⟨c_l3.toArray⟩] 33))) rfl (by kernel_rfl) ?_
      refine kput (hK (x20, x21, x22, x23, x24, x25, x26, x27, (.agg #[.string ⟨c_s.toArray⟩, .string ⟨c_p.toArray⟩, .int .i64 c_n, .bool c_v0, .string ⟨c_l0.toArray⟩, .bool c_v1, .string ⟨c_l1.toArray⟩, .bool c_v2, .string ⟨c_l2.toArray⟩, .bool c_v3, .string ⟨c_l3.toArray⟩]), (.slice (some ⟨W.heap.size, 0, none⟩) 1 1), x30, x31, x32, x33, x34, x35, x36, x37, x38, x39, x40, x41, x42, x43, x44, x45, x46, x47, x48) (W.alloc (.cells #[.string ⟨c_s.toArray⟩, .string ⟨c_p.toArray⟩, .int .i64 c_n, .bool c_v0, .string ⟨c_l0.toArray⟩, .bool c_v1, .string ⟨c_l1.toArray⟩, .bool c_v2, .string ⟨c_l2.toArray⟩, .bool c_v3, .string ⟨c_l3.toArray⟩] 33)) ⟨(by simp only [getD_set_ne (listed := L) false (show (9 : Nat) ≠ 10 by decide), getD_set_ne (listed := L) false (show (9 : Nat) ≠ 15 by decide), getD_set_ne (listed := L) false (show (9 : Nat) ≠ 16 by decide), getD_set_ne (listed := L) false (show (9 : Nat) ≠ 21 by decide), getD_set_ne (listed := L) false (show (9 : Nat) ≠ 22 by decide), getD_set_ne (listed := L) false (show (9 : Nat) ≠ 25 by decide), getD_set_ne (listed := L) false (show (9 : Nat) ≠ 28 by decide), getD_set_ne (listed := L) false (show (9 : Nat) ≠ 31 by decide), set_now (L := L) hlt]; exact hJ), fun h => getD_set_true (q25_6 (not_k h (by decide))), fun h => getD_set_true (q28_14 (not_k h (by decide))), fun h => getD_set_true (q31_20 (not_k h (by decide))), fun h => getD_set_true (q10_7 (not_k h (by decide))), fun h => getD_set_true (q8_7 (not_k h (by decide))), fun h => f0 (not_k h (by decide)), fun h => f1 (not_k h (by decide)), fun h => f2 (not_k h (by decide)), fun h => f3 (not_k h (by decide)), fun h => f4 (not_k h (by decide)), fun h => f5 (not_k h (by decide)), fun h => f6 (not_k h (by decide)), fun h => f7 (not_k h (by decide)), fun h => f8 (not_k h (by decide)), fun h => f11 (not_k h (by decide)), fun h => f12 (not_k h (by decide)), fun h => f13 (not_k h (by decide)), fun h => f14 (not_k h (by decide)), fun h => f17 (not_k h (by decide)), fun h => f18 (not_k h (by decide)), fun h => f19 (not_k h (by decide)), fun h => f20 (not_k h (by decide)), fun h => f23 (not_k h (by decide)), fun h => f24 (not_k h (by decide)), fun h => f26 (not_k h (by decide)), fun h => f27 (not_k h (by decide)), fun h => f29 (not_k h (by decide)), fun h => f30 (not_k h (by decide))⟩) ?_
      simp only [Act.put, List.setIfInBounds_toArray, List.set_cons_zero, List.set_cons_succ]
    · intro L x W hF hlt hk hd K' hK
      obtain ⟨x20, x21, x22, x23, x24, x25, x26, x27, x28, x29, x30, x31, x32, x33, x34, x35, x36, x37, x38, x39, x40, x41, x42, x43, x44, x45, x46, x47, x48⟩ := x
      obtain ⟨hJ, q25_6, q28_14, q31_20, q10_7, q8_7, f0, f1, f2, f3, f4, f5, f6, f7, f8, f11, f12, f13, f14, f17, f18, f19, f20, f23, f24, f26, f27, f29, f30⟩ := hF
      have d6 : L.getD 6 false = true := dep_of hd 6 (by rfl)
      have d9 : L.getD 9 false = true := dep_of hd 9 (by rfl)
      obtain rfl := (f6 d6).symm
      rw [d9, hk] at hJ
      obtain ⟨g9, rfl, hC9⟩ := HF29.out _ _ _ _ _ _ _ _ _ _ _ _ _ _ hJ
      have hR9 := HRA.out _ _ _ _ _ _ _ _ _ _ _ _ _ _ _ hJ
      simp only [Act.put, List.setIfInBounds_toArray, List.set_cons_zero, List.set_cons_succ]
      refine sx_append W rfl (.tmp 26) (.tmp 29) 48 rfl D 33 i5 (.agg #[.string ByteArray.empty, .string ByteArray.empty, .int .i64 0, .bool false, .string ByteArray.empty, .bool false, .string ByteArray.empty, .bool false, .string ByteArray.empty, .bool false, .string ByteArray.empty]) 11 136 Tryz.underlying48 I5.out.1 I5.out.2.1 I5.out.2.2.1 I5.out.2.2.2 rfl (by decide) _ n _ rfl hR9 W.heap.size (some ⟨g9, 0, none⟩) 1 1 (#[.string ⟨c_s.toArray⟩, .string ⟨c_p.toArray⟩, .int .i64 c_n, .bool c_v0, .string ⟨c_l0.toArray⟩, .bool c_v1, .string ⟨c_l1.toArray⟩, .bool c_v2, .string ⟨c_l2.toArray⟩, .bool c_v3, .string ⟨c_l3.toArray⟩] : Array Value).toList rfl (reads_celR hC9 rfl) (by simp [Value.oneCell']) (by have := HSL.out; unfold maxLen; omega) (by have := HSL.out; omega) (HSZ.out _ _ _ _ _ _ _ _ _ _ _ _ _ _ _ _ hJ) ?_
      intro v9 w9 hown9 hg9 hat9
      replace hJ := H10.out _ _ _ _ _ _ _ _ _ _ _ _ _ _ _ _ hJ hg9 hown9 hat9
      refine kput (hK (x20, x21, x22, x23, x24, x25, (.slice sa n sc), x27, x28, (.slice (some ⟨g9, 0, none⟩) 1 1), v9, x31, x32, x33, x34, x35, x36, x37, x38, x39, x40, x41, x42, x43, x44, x45, x46, x47, x48) w9 ⟨(by simp only [getD_set_ne (listed := L) false (show (10 : Nat) ≠ 9 by decide), getD_set_ne (listed := L) false (show (10 : Nat) ≠ 15 by decide), getD_set_ne (listed := L) false (show (10 : Nat) ≠ 16 by decide), getD_set_ne (listed := L) false (show (10 : Nat) ≠ 21 by decide), getD_set_ne (listed := L) false (show (10 : Nat) ≠ 22 by decide), getD_set_ne (listed := L) false (show (10 : Nat) ≠ 25 by decide), getD_set_ne (listed := L) false (show (10 : Nat) ≠ 28 by decide), getD_set_ne (listed := L) false (show (10 : Nat) ≠ 31 by decide), set_now (L := L) hlt, d9]; exact hJ), fun h => getD_set_true (q25_6 (not_k h (by decide))), fun h => getD_set_true (q28_14 (not_k h (by decide))), fun h => getD_set_true (q31_20 (not_k h (by decide))), fun _ => getD_set_true (q8_7 (dep_of hd 8 (by rfl))), fun h => getD_set_true (q8_7 (not_k h (by decide))), fun h => f0 (not_k h (by decide)), fun h => f1 (not_k h (by decide)), fun h => f2 (not_k h (by decide)), fun h => f3 (not_k h (by decide)), fun h => f4 (not_k h (by decide)), fun h => f5 (not_k h (by decide)), fun h => f6 (not_k h (by decide)), fun h => f7 (not_k h (by decide)), fun h => f8 (not_k h (by decide)), fun h => f11 (not_k h (by decide)), fun h => f12 (not_k h (by decide)), fun h => f13 (not_k h (by decide)), fun h => f14 (not_k h (by decide)), fun h => f17 (not_k h (by decide)), fun h => f18 (not_k h (by decide)), fun h => f19 (not_k h (by decide)), fun h => f20 (not_k h (by decide)), fun h => f23 (not_k h (by decide)), fun h => f24 (not_k h (by decide)), fun h => f26 (not_k h (by decide)), fun h => f27 (not_k h (by decide)), fun h => f29 (not_k h (by decide)), fun h => f30 (not_k h (by decide))⟩) ?_
      simp only [Act.put, List.setIfInBounds_toArray, List.set_cons_zero, List.set_cons_succ]
    · intro L x W hF hlt hk hd K' hK
      obtain ⟨x20, x21, x22, x23, x24, x25, x26, x27, x28, x29, x30, x31, x32, x33, x34, x35, x36, x37, x38, x39, x40, x41, x42, x43, x44, x45, x46, x47, x48⟩ := x
      obtain ⟨hJ, q25_6, q28_14, q31_20, q10_7, q8_7, f0, f1, f2, f3, f4, f5, f6, f7, f8, f11, f12, f13, f14, f17, f18, f19, f20, f23, f24, f26, f27, f29, f30⟩ := hF
      simp only [Act.put, List.setIfInBounds_toArray, List.set_cons_zero, List.set_cons_succ]
      refine sx_val (v := .pointer (some ⟨r, 0, none⟩)) (W' := W) rfl (by kernel_rfl) ?_
      refine kput (hK (x20, x21, x22, x23, x24, x25, x26, x27, x28, x29, x30, (.pointer (some ⟨r, 0, none⟩)), x32, x33, x34, x35, x36, x37, x38, x39, x40, x41, x42, x43, x44, x45, x46, x47, x48) W ⟨(by simp only [getD_set_ne (listed := L) false (show (11 : Nat) ≠ 9 by decide), getD_set_ne (listed := L) false (show (11 : Nat) ≠ 10 by decide), getD_set_ne (listed := L) false (show (11 : Nat) ≠ 15 by decide), getD_set_ne (listed := L) false (show (11 : Nat) ≠ 16 by decide), getD_set_ne (listed := L) false (show (11 : Nat) ≠ 21 by decide), getD_set_ne (listed := L) false (show (11 : Nat) ≠ 22 by decide), getD_set_ne (listed := L) false (show (11 : Nat) ≠ 25 by decide), getD_set_ne (listed := L) false (show (11 : Nat) ≠ 28 by decide), getD_set_ne (listed := L) false (show (11 : Nat) ≠ 31 by decide)]; exact hJ), fun h => getD_set_true (q25_6 (not_k h (by decide))), fun h => getD_set_true (q28_14 (not_k h (by decide))), fun h => getD_set_true (q31_20 (not_k h (by decide))), fun h => getD_set_true (q10_7 (not_k h (by decide))), fun h => getD_set_true (q8_7 (not_k h (by decide))), fun h => f0 (not_k h (by decide)), fun h => f1 (not_k h (by decide)), fun h => f2 (not_k h (by decide)), fun h => f3 (not_k h (by decide)), fun h => f4 (not_k h (by decide)), fun h => f5 (not_k h (by decide)), fun h => f6 (not_k h (by decide)), fun h => f7 (not_k h (by decide)), fun h => f8 (not_k h (by decide)), fun _ => rfl, fun h => f12 (not_k h (by decide)), fun h => f13 (not_k h (by decide)), fun h => f14 (not_k h (by decide)), fun h => f17 (not_k h (by decide)), fun h => f18 (not_k h (by decide)), fun h => f19 (not_k h (by decide)), fun h => f20 (not_k h (by decide)), fun h => f23 (not_k h (by decide)), fun h => f24 (not_k h (by decide)), fun h => f26 (not_k h (by decide)), fun h => f27 (not_k h (by decide)), fun h => f29 (not_k h (by decide)), fun h => f30 (not_k h (by decide))⟩) ?_
      simp only [Act.put, List.setIfInBounds_toArray, List.set_cons_zero, List.set_cons_succ]
    · intro L x W hF hlt hk hd K' hK
      obtain ⟨x20, x21, x22, x23, x24, x25, x26, x27, x28, x29, x30, x31, x32, x33, x34, x35, x36, x37, x38, x39, x40, x41, x42, x43, x44, x45, x46, x47, x48⟩ := x
      obtain ⟨hJ, q25_6, q28_14, q31_20, q10_7, q8_7, f0, f1, f2, f3, f4, f5, f6, f7, f8, f11, f12, f13, f14, f17, f18, f19, f20, f23, f24, f26, f27, f29, f30⟩ := hF
      have d11 : L.getD 11 false = true := dep_of hd 11 (by rfl)
      obtain rfl := (f11 d11).symm
      simp only [Act.put, List.setIfInBounds_toArray, List.set_cons_zero, List.set_cons_succ]
      refine sx_val (v := .pointer (some ⟨r, 0, none⟩)) (W' := W) rfl (by kernel_rfl) ?_
      refine kput (hK (x20, x21, x22, x23, x24, x25, x26, x27, x28, x29, x30, (.pointer (some ⟨r, 0, none⟩)), (.pointer (some ⟨r, 0, none⟩)), x33, x34, x35, x36, x37, x38, x39, x40, x41, x42, x43, x44, x45, x46, x47, x48) W ⟨(by simp only [getD_set_ne (listed := L) false (show (12 : Nat) ≠ 9 by decide), getD_set_ne (listed := L) false (show (12 : Nat) ≠ 10 by decide), getD_set_ne (listed := L) false (show (12 : Nat) ≠ 15 by decide), getD_set_ne (listed := L) false (show (12 : Nat) ≠ 16 by decide), getD_set_ne (listed := L) false (show (12 : Nat) ≠ 21 by decide), getD_set_ne (listed := L) false (show (12 : Nat) ≠ 22 by decide), getD_set_ne (listed := L) false (show (12 : Nat) ≠ 25 by decide), getD_set_ne (listed := L) false (show (12 : Nat) ≠ 28 by decide), getD_set_ne (listed := L) false (show (12 : Nat) ≠ 31 by decide)]; exact hJ), fun h => getD_set_true (q25_6 (not_k h (by decide))), fun h => getD_set_true (q28_14 (not_k h (by decide))), fun h => getD_set_true (q31_20 (not_k h (by decide))), fun h => getD_set_true (q10_7 (not_k h (by decide))), fun h => getD_set_true (q8_7 (not_k h (by decide))), fun h => f0 (not_k h (by decide)), fun h => f1 (not_k h (by decide)), fun h => f2 (not_k h (by decide)), fun h => f3 (not_k h (by decide)), fun h => f4 (not_k h (by decide)), fun h => f5 (not_k h (by decide)), fun h => f6 (not_k h (by decide)), fun h => f7 (not_k h (by decide)), fun h => f8 (not_k h (by decide)), fun h => f11 (not_k h (by decide)), fun _ => rfl, fun h => f13 (not_k h (by decide)), fun h => f14 (not_k h (by decide)), fun h => f17 (not_k h (by decide)), fun h => f18 (not_k h (by decide)), fun h => f19 (not_k h (by decide)), fun h => f20 (not_k h (by decide)), fun h => f23 (not_k h (by decide)), fun h => f24 (not_k h (by decide)), fun h => f26 (not_k h (by decide)), fun h => f27 (not_k h (by decide)), fun h => f29 (not_k h (by decide)), fun h => f30 (not_k h (by decide))⟩) ?_
      simp only [Act.put, List.setIfInBounds_toArray, List.set_cons_zero, List.set_cons_succ]
    · intro L x W hF hlt hk hd K' hK
      obtain ⟨x20, x21, x22, x23, x24, x25, x26, x27, x28, x29, x30, x31, x32, x33, x34, x35, x36, x37, x38, x39, x40, x41, x42, x43, x44, x45, x46, x47, x48⟩ := x
      obtain ⟨hJ, q25_6, q28_14, q31_20, q10_7, q8_7, f0, f1, f2, f3, f4, f5, f6, f7, f8, f11, f12, f13, f14, f17, f18, f19, f20, f23, f24, f26, f27, f29, f30⟩ := hF
      have d12 : L.getD 12 false = true := dep_of hd 12 (by rfl)
      obtain rfl := (f12 d12).symm
      simp only [Act.put, List.setIfInBounds_toArray, List.set_cons_zero, List.set_cons_succ]
      refine sx_val (v := .pointer (some ⟨r, 1, none⟩)) (W' := W) rfl (by kernel_rfl) ?_
      refine kput (hK (x20, x21, x22, x23, x24, x25, x26, x27, x28, x29, x30, x31, (.pointer (some ⟨r, 0, none⟩)), (.pointer (some ⟨r, 1, none⟩)), x34, x35, x36, x37, x38, x39, x40, x41, x42, x43, x44, x45, x46, x47, x48) W ⟨(by simp only [getD_set_ne (listed := L) false (show (13 : Nat) ≠ 9 by decide), getD_set_ne (listed := L) false (show (13 : Nat) ≠ 10 by decide), getD_set_ne (listed := L) false (show (13 : Nat) ≠ 15 by decide), getD_set_ne (listed := L) false (show (13 : Nat) ≠ 16 by decide), getD_set_ne (listed := L) false (show (13 : Nat) ≠ 21 by decide), getD_set_ne (listed := L) false (show (13 : Nat) ≠ 22 by decide), getD_set_ne (listed := L) false (show (13 : Nat) ≠ 25 by decide), getD_set_ne (listed := L) false (show (13 : Nat) ≠ 28 by decide), getD_set_ne (listed := L) false (show (13 : Nat) ≠ 31 by decide)]; exact hJ), fun h => getD_set_true (q25_6 (not_k h (by decide))), fun h => getD_set_true (q28_14 (not_k h (by decide))), fun h => getD_set_true (q31_20 (not_k h (by decide))), fun h => getD_set_true (q10_7 (not_k h (by decide))), fun h => getD_set_true (q8_7 (not_k h (by decide))), fun h => f0 (not_k h (by decide)), fun h => f1 (not_k h (by decide)), fun h => f2 (not_k h (by decide)), fun h => f3 (not_k h (by decide)), fun h => f4 (not_k h (by decide)), fun h => f5 (not_k h (by decide)), fun h => f6 (not_k h (by decide)), fun h => f7 (not_k h (by decide)), fun h => f8 (not_k h (by decide)), fun h => f11 (not_k h (by decide)), fun h => f12 (not_k h (by decide)), fun _ => rfl, fun h => f14 (not_k h (by decide)), fun h => f17 (not_k h (by decide)), fun h => f18 (not_k h (by decide)), fun h => f19 (not_k h (by decide)), fun h => f20 (not_k h (by decide)), fun h => f23 (not_k h (by decide)), fun h => f24 (not_k h (by decide)), fun h => f26 (not_k h (by decide)), fun h => f27 (not_k h (by decide)), fun h => f29 (not_k h (by decide)), fun h => f30 (not_k h (by decide))⟩) ?_
      simp only [Act.put, List.setIfInBounds_toArray, List.set_cons_zero, List.set_cons_succ]
    · intro L x W hF hlt hk hd K' hK
      obtain ⟨x20, x21, x22, x23, x24, x25, x26, x27, x28, x29, x30, x31, x32, x33, x34, x35, x36, x37, x38, x39, x40, x41, x42, x43, x44, x45, x46, x47, x48⟩ := x
      obtain ⟨hJ, q25_6, q28_14, q31_20, q10_7, q8_7, f0, f1, f2, f3, f4, f5, f6, f7, f8, f11, f12, f13, f14, f17, f18, f19, f20, f23, f24, f26, f27, f29, f30⟩ := hF
      have d13 : L.getD 13 false = true := dep_of hd 13 (by rfl)
      obtain rfl := (f13 d13).symm
      have y7 : L.getD 28 false = false := by cases hc : L.getD 28 false with | false => rfl | true => exact absurd ((q28_14 hc).symm.trans hk) (by decide)
      simp only [Act.put, List.setIfInBounds_toArray, List.set_cons_zero, List.set_cons_succ]
      refine sx_val (v := .slice ga n gc) (W' := W) rfl (ld_one rfl (by rfl) (by kernel_rfl) W (HC1.out _ _ _ _ _ _ _ _ _ _ _ _ _ _ _ _ hJ y7)) ?_
      refine kput (hK (x20, x21, x22, x23, x24, x25, x26, x27, x28, x29, x30, x31, x32, (.pointer (some ⟨r, 1, none⟩)), (.slice ga n gc), x35, x36, x37, x38, x39, x40, x41, x42, x43, x44, x45, x46, x47, x48) W ⟨(by simp only [getD_set_ne (listed := L) false (show (14 : Nat) ≠ 9 by decide), getD_set_ne (listed := L) false (show (14 : Nat) ≠ 10 by decide), getD_set_ne (listed := L) false (show (14 : Nat) ≠ 15 by decide), getD_set_ne (listed := L) false (show (14 : Nat) ≠ 16 by decide), getD_set_ne (listed := L) false (show (14 : Nat) ≠ 21 by decide), getD_set_ne (listed := L) false (show (14 : Nat) ≠ 22 by decide), getD_set_ne (listed := L) false (show (14 : Nat) ≠ 25 by decide), getD_set_ne (listed := L) false (show (14 : Nat) ≠ 28 by decide), getD_set_ne (listed := L) false (show (14 : Nat) ≠ 31 by decide)]; exact hJ), fun h => getD_set_true (q25_6 (not_k h (by decide))), fun h => getD_set_true (q28_14 (not_k h (by decide))), fun h => getD_set_true (q31_20 (not_k h (by decide))), fun h => getD_set_true (q10_7 (not_k h (by decide))), fun h => getD_set_true (q8_7 (not_k h (by decide))), fun h => f0 (not_k h (by decide)), fun h => f1 (not_k h (by decide)), fun h => f2 (not_k h (by decide)), fun h => f3 (not_k h (by decide)), fun h => f4 (not_k h (by decide)), fun h => f5 (not_k h (by decide)), fun h => f6 (not_k h (by decide)), fun h => f7 (not_k h (by decide)), fun h => f8 (not_k h (by decide)), fun h => f11 (not_k h (by decide)), fun h => f12 (not_k h (by decide)), fun h => f13 (not_k h (by decide)), fun _ => rfl, fun h => f17 (not_k h (by decide)), fun h => f18 (not_k h (by decide)), fun h => f19 (not_k h (by decide)), fun h => f20 (not_k h (by decide)), fun h => f23 (not_k h (by decide)), fun h => f24 (not_k h (by decide)), fun h => f26 (not_k h (by decide)), fun h => f27 (not_k h (by decide)), fun h => f29 (not_k h (by decide)), fun h => f30 (not_k h (by decide))⟩) ?_
      simp only [Act.put, List.setIfInBounds_toArray, List.set_cons_zero, List.set_cons_succ]
    · intro L x W hF hlt hk hd K' hK
      obtain ⟨x20, x21, x22, x23, x24, x25, x26, x27, x28, x29, x30, x31, x32, x33, x34, x35, x36, x37, x38, x39, x40, x41, x42, x43, x44, x45, x46, x47, x48⟩ := x
      obtain ⟨hJ, q25_6, q28_14, q31_20, q10_7, q8_7, f0, f1, f2, f3, f4, f5, f6, f7, f8, f11, f12, f13, f14, f17, f18, f19, f20, f23, f24, f26, f27, f29, f30⟩ := hF
      replace hJ := H15.out _ _ _ _ _ _ _ _ _ _ _ _ _ _ _ _ hJ
      simp only [Act.put, List.setIfInBounds_toArray, List.set_cons_zero, List.set_cons_succ]
      refine sx_val (v := .slice (some ⟨W.heap.size, 0, none⟩) 1 1) (W' := (W.alloc (.cells #[nilR] 48))) rfl (by kernel_rfl) ?_
      refine kput (hK (x20, x21, x22, x23, x24, x25, x26, x27, x28, x29, x30, x31, x32, x33, x34, (.slice (some ⟨W.heap.size, 0, none⟩) 1 1), x36, x37, x38, x39, x40, x41, x42, x43, x44, x45, x46, x47, x48) (W.alloc (.cells #[nilR] 48)) ⟨(by simp only [getD_set_ne (listed := L) false (show (15 : Nat) ≠ 9 by decide), getD_set_ne (listed := L) false (show (15 : Nat) ≠ 10 by decide), getD_set_ne (listed := L) false (show (15 : Nat) ≠ 16 by decide), getD_set_ne (listed := L) false (show (15 : Nat) ≠ 21 by decide), getD_set_ne (listed := L) false (show (15 : Nat) ≠ 22 by decide), getD_set_ne (listed := L) false (show (15 : Nat) ≠ 25 by decide), getD_set_ne (listed := L) false (show (15 : Nat) ≠ 28 by decide), getD_set_ne (listed := L) false (show (15 : Nat) ≠ 31 by decide), set_now (L := L) hlt]; exact hJ), fun h => getD_set_true (q25_6 (not_k h (by decide))), fun h => getD_set_true (q28_14 (not_k h (by decide))), fun h => getD_set_true (q31_20 (not_k h (by decide))), fun h => getD_set_true (q10_7 (not_k h (by decide))), fun h => getD_set_true (q8_7 (not_k h (by decide))), fun h => f0 (not_k h (by decide)), fun h => f1 (not_k h (by decide)), fun h => f2 (not_k h (by decide)), fun h => f3 (not_k h (by decide)), fun h => f4 (not_k h (by decide)), fun h => f5 (not_k h (by decide)), fun h => f6 (not_k h (by decide)), fun h => f7 (not_k h (by decide)), fun h => f8 (not_k h (by decide)), fun h => f11 (not_k h (by decide)), fun h => f12 (not_k h (by decide)), fun h => f13 (not_k h (by decide)), fun h => f14 (not_k h (by decide)), fun h => f17 (not_k h (by decide)), fun h => f18 (not_k h (by decide)), fun h => f19 (not_k h (by decide)), fun h => f20 (not_k h (by decide)), fun h => f23 (not_k h (by decide)), fun h => f24 (not_k h (by decide)), fun h => f26 (not_k h (by decide)), fun h => f27 (not_k h (by decide)), fun h => f29 (not_k h (by decide)), fun h => f30 (not_k h (by decide))⟩) ?_
      simp only [Act.put, List.setIfInBounds_toArray, List.set_cons_zero, List.set_cons_succ]
    · intro L x W hF hlt hk hd K' hK
      obtain ⟨x20, x21, x22, x23, x24, x25, x26, x27, x28, x29, x30, x31, x32, x33, x34, x35, x36, x37, x38, x39, x40, x41, x42, x43, x44, x45, x46, x47, x48⟩ := x
      obtain ⟨hJ, q25_6, q28_14, q31_20, q10_7, q8_7, f0, f1, f2, f3, f4, f5, f6, f7, f8, f11, f12, f13, f14, f17, f18, f19, f20, f23, f24, f26, f27, f29, f30⟩ := hF
      have d14 : L.getD 14 false = true := dep_of hd 14 (by rfl)
      have d15 : L.getD 15 false = true := dep_of hd 15 (by rfl)
      obtain rfl := (f14 d14).symm
      rw [d15, hk] at hJ
      obtain ⟨g9, rfl, hC9⟩ := HF35.out _ _ _ _ _ _ _ _ _ _ _ _ _ _ hJ
      have hR9 := HRG.out _ _ _ _ _ _ _ _ _ _ _ _ _ _ _ hJ
      simp only [Act.put, List.setIfInBounds_toArray, List.set_cons_zero, List.set_cons_succ]
      refine sx_append W rfl (.tmp 34) (.tmp 35) 49 rfl D 48 i6 (.slice none 0 0) 1 24 Tryz.underlying49 I6.out.1 I6.out.2.1 I6.out.2.2.1 I6.out.2.2.2 rfl (by decide) _ n _ rfl hR9 W.heap.size (some ⟨g9, 0, none⟩) 1 1 [nilR] rfl (reads_celR hC9 rfl) (by simp [Value.oneCell', nilR]) (by have := HSL.out; unfold maxLen; omega) (by have := HSL.out; omega) (HSZ.out _ _ _ _ _ _ _ _ _ _ _ _ _ _ _ _ hJ) ?_
      intro v9 w9 hown9 hg9 hat9
      replace hJ := H16.out _ _ _ _ _ _ _ _ _ _ _ _ _ _ _ _ hJ hg9 hown9 hat9
      refine kput (hK (x20, x21, x22, x23, x24, x25, x26, x27, x28, x29, x30, x31, x32, x33, (.slice ga n gc), (.slice (some ⟨g9, 0, none⟩) 1 1), v9, x37, x38, x39, x40, x41, x42, x43, x44, x45, x46, x47, x48) w9 ⟨(by simp only [getD_set_ne (listed := L) false (show (16 : Nat) ≠ 9 by decide), getD_set_ne (listed := L) false (show (16 : Nat) ≠ 10 by decide), getD_set_ne (listed := L) false (show (16 : Nat) ≠ 15 by decide), getD_set_ne (listed := L) false (show (16 : Nat) ≠ 21 by decide), getD_set_ne (listed := L) false (show (16 : Nat) ≠ 22 by decide), getD_set_ne (listed := L) false (show (16 : Nat) ≠ 25 by decide), getD_set_ne (listed := L) false (show (16 : Nat) ≠ 28 by decide), getD_set_ne (listed := L) false (show (16 : Nat) ≠ 31 by decide), set_now (L := L) hlt, d15]; exact hJ), fun h => getD_set_true (q25_6 (not_k h (by decide))), fun h => getD_set_true (q28_14 (not_k h (by decide))), fun h => getD_set_true (q31_20 (not_k h (by decide))), fun h => getD_set_true (q10_7 (not_k h (by decide))), fun h => getD_set_true (q8_7 (not_k h (by decide))), fun h => f0 (not_k h (by decide)), fun h => f1 (not_k h (by decide)), fun h => f2 (not_k h (by decide)), fun h => f3 (not_k h (by decide)), fun h => f4 (not_k h (by decide)), fun h => f5 (not_k h (by decide)), fun h => f6 (not_k h (by decide)), fun h => f7 (not_k h (by decide)), fun h => f8 (not_k h (by decide)), fun h => f11 (not_k h (by decide)), fun h => f12 (not_k h (by decide)), fun h => f13 (not_k h (by decide)), fun h => f14 (not_k h (by decide)), fun h => f17 (not_k h (by decide)), fun h => f18 (not_k h (by decide)), fun h => f19 (not_k h (by decide)), fun h => f20 (not_k h (by decide)), fun h => f23 (not_k h (by decide)), fun h => f24 (not_k h (by decide)), fun h => f26 (not_k h (by decide)), fun h => f27 (not_k h (by decide)), fun h => f29 (not_k h (by decide)), fun h => f30 (not_k h (by decide))⟩) ?_
      simp only [Act.put, List.setIfInBounds_toArray, List.set_cons_zero, List.set_cons_succ]
    · intro L x W hF hlt hk hd K' hK
      obtain ⟨x20, x21, x22, x23, x24, x25, x26, x27, x28, x29, x30, x31, x32, x33, x34, x35, x36, x37, x38, x39, x40, x41, x42, x43, x44, x45, x46, x47, x48⟩ := x
      obtain ⟨hJ, q25_6, q28_14, q31_20, q10_7, q8_7, f0, f1, f2, f3, f4, f5, f6, f7, f8, f11, f12, f13, f14, f17, f18, f19, f20, f23, f24, f26, f27, f29, f30⟩ := hF
      simp only [Act.put, List.setIfInBounds_toArray, List.set_cons_zero, List.set_cons_succ]
      refine sx_val (v := .pointer (some ⟨r, 0, none⟩)) (W' := W) rfl (by kernel_rfl) ?_
      refine kput (hK (x20, x21, x22, x23, x24, x25, x26, x27, x28, x29, x30, x31, x32, x33, x34, x35, x36, (.pointer (some ⟨r, 0, none⟩)), x38, x39, x40, x41, x42, x43, x44, x45, x46, x47, x48) W ⟨(by simp only [getD_set_ne (listed := L) false (show (17 : Nat) ≠ 9 by decide), getD_set_ne (listed := L) false (show (17 : Nat) ≠ 10 by decide), getD_set_ne (listed := L) false (show (17 : Nat) ≠ 15 by decide), getD_set_ne (listed := L) false (show (17 : Nat) ≠ 16 by decide), getD_set_ne (listed := L) false (show (17 : Nat) ≠ 21 by decide), getD_set_ne (listed := L) false (show (17 : Nat) ≠ 22 by decide), getD_set_ne (listed := L) false (show (17 : Nat) ≠ 25 by decide), getD_set_ne (listed := L) false (show (17 : Nat) ≠ 28 by decide), getD_set_ne (listed := L) false (show (17 : Nat) ≠ 31 by decide)]; exact hJ), fun h => getD_set_true (q25_6 (not_k h (by decide))), fun h => getD_set_true (q28_14 (not_k h (by decide))), fun h => getD_set_true (q31_20 (not_k h (by decide))), fun h => getD_set_true (q10_7 (not_k h (by decide))), fun h => getD_set_true (q8_7 (not_k h (by decide))), fun h => f0 (not_k h (by decide)), fun h => f1 (not_k h (by decide)), fun h => f2 (not_k h (by decide)), fun h => f3 (not_k h (by decide)), fun h => f4 (not_k h (by decide)), fun h => f5 (not_k h (by decide)), fun h => f6 (not_k h (by decide)), fun h => f7 (not_k h (by decide)), fun h => f8 (not_k h (by decide)), fun h => f11 (not_k h (by decide)), fun h => f12 (not_k h (by decide)), fun h => f13 (not_k h (by decide)), fun h => f14 (not_k h (by decide)), fun _ => rfl, fun h => f18 (not_k h (by decide)), fun h => f19 (not_k h (by decide)), fun h => f20 (not_k h (by decide)), fun h => f23 (not_k h (by decide)), fun h => f24 (not_k h (by decide)), fun h => f26 (not_k h (by decide)), fun h => f27 (not_k h (by decide)), fun h => f29 (not_k h (by decide)), fun h => f30 (not_k h (by decide))⟩) ?_
      simp only [Act.put, List.setIfInBounds_toArray, List.set_cons_zero, List.set_cons_succ]
    · intro L x W hF hlt hk hd K' hK
      obtain ⟨x20, x21, x22, x23, x24, x25, x26, x27, x28, x29, x30, x31, x32, x33, x34, x35, x36, x37, x38, x39, x40, x41, x42, x43, x44, x45, x46, x47, x48⟩ := x
      obtain ⟨hJ, q25_6, q28_14, q31_20, q10_7, q8_7, f0, f1, f2, f3, f4, f5, f6, f7, f8, f11, f12, f13, f14, f17, f18, f19, f20, f23, f24, f26, f27, f29, f30⟩ := hF
      have d17 : L.getD 17 false = true := dep_of hd 17 (by rfl)
      obtain rfl := (f17 d17).symm
      simp only [Act.put, List.setIfInBounds_toArray, List.set_cons_zero, List.set_cons_succ]
      refine sx_val (v := .pointer (some ⟨r, 0, none⟩)) (W' := W) rfl (by kernel_rfl) ?_
      refine kput (hK (x20, x21, x22, x23, x24, x25, x26, x27, x28, x29, x30, x31, x32, x33, x34, x35, x36, (.pointer (some ⟨r, 0, none⟩)), (.pointer (some ⟨r, 0, none⟩)), x39, x40, x41, x42, x43, x44, x45, x46, x47, x48) W ⟨(by simp only [getD_set_ne (listed := L) false (show (18 : Nat) ≠ 9 by decide), getD_set_ne (listed := L) false (show (18 : Nat) ≠ 10 by decide), getD_set_ne (listed := L) false (show (18 : Nat) ≠ 15 by decide), getD_set_ne (listed := L) false (show (18 : Nat) ≠ 16 by decide), getD_set_ne (listed := L) false (show (18 : Nat) ≠ 21 by decide), getD_set_ne (listed := L) false (show (18 : Nat) ≠ 22 by decide), getD_set_ne (listed := L) false (show (18 : Nat) ≠ 25 by decide), getD_set_ne (listed := L) false (show (18 : Nat) ≠ 28 by decide), getD_set_ne (listed := L) false (show (18 : Nat) ≠ 31 by decide)]; exact hJ), fun h => getD_set_true (q25_6 (not_k h (by decide))), fun h => getD_set_true (q28_14 (not_k h (by decide))), fun h => getD_set_true (q31_20 (not_k h (by decide))), fun h => getD_set_true (q10_7 (not_k h (by decide))), fun h => getD_set_true (q8_7 (not_k h (by decide))), fun h => f0 (not_k h (by decide)), fun h => f1 (not_k h (by decide)), fun h => f2 (not_k h (by decide)), fun h => f3 (not_k h (by decide)), fun h => f4 (not_k h (by decide)), fun h => f5 (not_k h (by decide)), fun h => f6 (not_k h (by decide)), fun h => f7 (not_k h (by decide)), fun h => f8 (not_k h (by decide)), fun h => f11 (not_k h (by decide)), fun h => f12 (not_k h (by decide)), fun h => f13 (not_k h (by decide)), fun h => f14 (not_k h (by decide)), fun h => f17 (not_k h (by decide)), fun _ => rfl, fun h => f19 (not_k h (by decide)), fun h => f20 (not_k h (by decide)), fun h => f23 (not_k h (by decide)), fun h => f24 (not_k h (by decide)), fun h => f26 (not_k h (by decide)), fun h => f27 (not_k h (by decide)), fun h => f29 (not_k h (by decide)), fun h => f30 (not_k h (by decide))⟩) ?_
      simp only [Act.put, List.setIfInBounds_toArray, List.set_cons_zero, List.set_cons_succ]
    · intro L x W hF hlt hk hd K' hK
      obtain ⟨x20, x21, x22, x23, x24, x25, x26, x27, x28, x29, x30, x31, x32, x33, x34, x35, x36, x37, x38, x39, x40, x41, x42, x43, x44, x45, x46, x47, x48⟩ := x
      obtain ⟨hJ, q25_6, q28_14, q31_20, q10_7, q8_7, f0, f1, f2, f3, f4, f5, f6, f7, f8, f11, f12, f13, f14, f17, f18, f19, f20, f23, f24, f26, f27, f29, f30⟩ := hF
      have d18 : L.getD 18 false = true := dep_of hd 18 (by rfl)
      obtain rfl := (f18 d18).symm
      simp only [Act.put, List.setIfInBounds_toArray, List.set_cons_zero, List.set_cons_succ]
      refine sx_val (v := .pointer (some ⟨r, 2, none⟩)) (W' := W) rfl (by kernel_rfl) ?_
      refine kput (hK (x20, x21, x22, x23, x24, x25, x26, x27, x28, x29, x30, x31, x32, x33, x34, x35, x36, x37, (.pointer (some ⟨r, 0, none⟩)), (.pointer (some ⟨r, 2, none⟩)), x40, x41, x42, x43, x44, x45, x46, x47, x48) W ⟨(by simp only [getD_set_ne (listed := L) false (show (19 : Nat) ≠ 9 by decide), getD_set_ne (listed := L) false (show (19 : Nat) ≠ 10 by decide), getD_set_ne (listed := L) false (show (19 : Nat) ≠ 15 by decide), getD_set_ne (listed := L) false (show (19 : Nat) ≠ 16 by decide), getD_set_ne (listed := L) false (show (19 : Nat) ≠ 21 by decide), getD_set_ne (listed := L) false (show (19 : Nat) ≠ 22 by decide), getD_set_ne (listed := L) false (show (19 : Nat) ≠ 25 by decide), getD_set_ne (listed := L) false (show (19 : Nat) ≠ 28 by decide), getD_set_ne (listed := L) false (show (19 : Nat) ≠ 31 by decide)]; exact hJ), fun h => getD_set_true (q25_6 (not_k h (by decide))), fun h => getD_set_true (q28_14 (not_k h (by decide))), fun h => getD_set_true (q31_20 (not_k h (by decide))), fun h => getD_set_true (q10_7 (not_k h (by decide))), fun h => getD_set_true (q8_7 (not_k h (by decide))), fun h => f0 (not_k h (by decide)), fun h => f1 (not_k h (by decide)), fun h => f2 (not_k h (by decide)), fun h => f3 (not_k h (by decide)), fun h => f4 (not_k h (by decide)), fun h => f5 (not_k h (by decide)), fun h => f6 (not_k h (by decide)), fun h => f7 (not_k h (by decide)), fun h => f8 (not_k h (by decide)), fun h => f11 (not_k h (by decide)), fun h => f12 (not_k h (by decide)), fun h => f13 (not_k h (by decide)), fun h => f14 (not_k h (by decide)), fun h => f17 (not_k h (by decide)), fun h => f18 (not_k h (by decide)), fun _ => rfl, fun h => f20 (not_k h (by decide)), fun h => f23 (not_k h (by decide)), fun h => f24 (not_k h (by decide)), fun h => f26 (not_k h (by decide)), fun h => f27 (not_k h (by decide)), fun h => f29 (not_k h (by decide)), fun h => f30 (not_k h (by decide))⟩) ?_
      simp only [Act.put, List.setIfInBounds_toArray, List.set_cons_zero, List.set_cons_succ]
    · intro L x W hF hlt hk hd K' hK
      obtain ⟨x20, x21, x22, x23, x24, x25, x26, x27, x28, x29, x30, x31, x32, x33, x34, x35, x36, x37, x38, x39, x40, x41, x42, x43, x44, x45, x46, x47, x48⟩ := x
      obtain ⟨hJ, q25_6, q28_14, q31_20, q10_7, q8_7, f0, f1, f2, f3, f4, f5, f6, f7, f8, f11, f12, f13, f14, f17, f18, f19, f20, f23, f24, f26, f27, f29, f30⟩ := hF
      have d19 : L.getD 19 false = true := dep_of hd 19 (by rfl)
      obtain rfl := (f19 d19).symm
      have y7 : L.getD 31 false = false := by cases hc : L.getD 31 false with | false => rfl | true => exact absurd ((q31_20 hc).symm.trans hk) (by decide)
      simp only [Act.put, List.setIfInBounds_toArray, List.set_cons_zero, List.set_cons_succ]
      refine sx_val (v := .slice wa n wc) (W' := W) rfl (ld_one rfl (by rfl) (by kernel_rfl) W (HC2.out _ _ _ _ _ _ _ _ _ _ _ _ _ _ _ _ hJ y7)) ?_
      refine kput (hK (x20, x21, x22, x23, x24, x25, x26, x27, x28, x29, x30, x31, x32, x33, x34, x35, x36, x37, x38, (.pointer (some ⟨r, 2, none⟩)), (.slice wa n wc), x41, x42, x43, x44, x45, x46, x47, x48) W ⟨(by simp only [getD_set_ne (listed := L) false (show (20 : Nat) ≠ 9 by decide), getD_set_ne (listed := L) false (show (20 : Nat) ≠ 10 by decide), getD_set_ne (listed := L) false (show (20 : Nat) ≠ 15 by decide), getD_set_ne (listed := L) false (show (20 : Nat) ≠ 16 by decide), getD_set_ne (listed := L) false (show (20 : Nat) ≠ 21 by decide), getD_set_ne (listed := L) false (show (20 : Nat) ≠ 22 by decide), getD_set_ne (listed := L) false (show (20 : Nat) ≠ 25 by decide), getD_set_ne (listed := L) false (show (20 : Nat) ≠ 28 by decide), getD_set_ne (listed := L) false (show (20 : Nat) ≠ 31 by decide)]; exact hJ), fun h => getD_set_true (q25_6 (not_k h (by decide))), fun h => getD_set_true (q28_14 (not_k h (by decide))), fun h => getD_set_true (q31_20 (not_k h (by decide))), fun h => getD_set_true (q10_7 (not_k h (by decide))), fun h => getD_set_true (q8_7 (not_k h (by decide))), fun h => f0 (not_k h (by decide)), fun h => f1 (not_k h (by decide)), fun h => f2 (not_k h (by decide)), fun h => f3 (not_k h (by decide)), fun h => f4 (not_k h (by decide)), fun h => f5 (not_k h (by decide)), fun h => f6 (not_k h (by decide)), fun h => f7 (not_k h (by decide)), fun h => f8 (not_k h (by decide)), fun h => f11 (not_k h (by decide)), fun h => f12 (not_k h (by decide)), fun h => f13 (not_k h (by decide)), fun h => f14 (not_k h (by decide)), fun h => f17 (not_k h (by decide)), fun h => f18 (not_k h (by decide)), fun h => f19 (not_k h (by decide)), fun _ => rfl, fun h => f23 (not_k h (by decide)), fun h => f24 (not_k h (by decide)), fun h => f26 (not_k h (by decide)), fun h => f27 (not_k h (by decide)), fun h => f29 (not_k h (by decide)), fun h => f30 (not_k h (by decide))⟩) ?_
      simp only [Act.put, List.setIfInBounds_toArray, List.set_cons_zero, List.set_cons_succ]
    · intro L x W hF hlt hk hd K' hK
      obtain ⟨x20, x21, x22, x23, x24, x25, x26, x27, x28, x29, x30, x31, x32, x33, x34, x35, x36, x37, x38, x39, x40, x41, x42, x43, x44, x45, x46, x47, x48⟩ := x
      obtain ⟨hJ, q25_6, q28_14, q31_20, q10_7, q8_7, f0, f1, f2, f3, f4, f5, f6, f7, f8, f11, f12, f13, f14, f17, f18, f19, f20, f23, f24, f26, f27, f29, f30⟩ := hF
      replace hJ := H21.out _ _ _ _ _ _ _ _ _ _ _ _ _ _ _ _ hJ
      simp only [Act.put, List.setIfInBounds_toArray, List.set_cons_zero, List.set_cons_succ]
      refine sx_val (v := .slice (some ⟨W.heap.size, 0, none⟩) 1 1) (W' := (W.alloc (.cells #[nilR] 54))) rfl (by kernel_rfl) ?_
      refine kput (hK (x20, x21, x22, x23, x24, x25, x26, x27, x28, x29, x30, x31, x32, x33, x34, x35, x36, x37, x38, x39, x40, (.slice (some ⟨W.heap.size, 0, none⟩) 1 1), x42, x43, x44, x45, x46, x47, x48) (W.alloc (.cells #[nilR] 54)) ⟨(by simp only [getD_set_ne (listed := L) false (show (21 : Nat) ≠ 9 by decide), getD_set_ne (listed := L) false (show (21 : Nat) ≠ 10 by decide), getD_set_ne (listed := L) false (show (21 : Nat) ≠ 15 by decide), getD_set_ne (listed := L) false (show (21 : Nat) ≠ 16 by decide), getD_set_ne (listed := L) false (show (21 : Nat) ≠ 22 by decide), getD_set_ne (listed := L) false (show (21 : Nat) ≠ 25 by decide), getD_set_ne (listed := L) false (show (21 : Nat) ≠ 28 by decide), getD_set_ne (listed := L) false (show (21 : Nat) ≠ 31 by decide), set_now (L := L) hlt]; exact hJ), fun h => getD_set_true (q25_6 (not_k h (by decide))), fun h => getD_set_true (q28_14 (not_k h (by decide))), fun h => getD_set_true (q31_20 (not_k h (by decide))), fun h => getD_set_true (q10_7 (not_k h (by decide))), fun h => getD_set_true (q8_7 (not_k h (by decide))), fun h => f0 (not_k h (by decide)), fun h => f1 (not_k h (by decide)), fun h => f2 (not_k h (by decide)), fun h => f3 (not_k h (by decide)), fun h => f4 (not_k h (by decide)), fun h => f5 (not_k h (by decide)), fun h => f6 (not_k h (by decide)), fun h => f7 (not_k h (by decide)), fun h => f8 (not_k h (by decide)), fun h => f11 (not_k h (by decide)), fun h => f12 (not_k h (by decide)), fun h => f13 (not_k h (by decide)), fun h => f14 (not_k h (by decide)), fun h => f17 (not_k h (by decide)), fun h => f18 (not_k h (by decide)), fun h => f19 (not_k h (by decide)), fun h => f20 (not_k h (by decide)), fun h => f23 (not_k h (by decide)), fun h => f24 (not_k h (by decide)), fun h => f26 (not_k h (by decide)), fun h => f27 (not_k h (by decide)), fun h => f29 (not_k h (by decide)), fun h => f30 (not_k h (by decide))⟩) ?_
      simp only [Act.put, List.setIfInBounds_toArray, List.set_cons_zero, List.set_cons_succ]
    · intro L x W hF hlt hk hd K' hK
      obtain ⟨x20, x21, x22, x23, x24, x25, x26, x27, x28, x29, x30, x31, x32, x33, x34, x35, x36, x37, x38, x39, x40, x41, x42, x43, x44, x45, x46, x47, x48⟩ := x
      obtain ⟨hJ, q25_6, q28_14, q31_20, q10_7, q8_7, f0, f1, f2, f3, f4, f5, f6, f7, f8, f11, f12, f13, f14, f17, f18, f19, f20, f23, f24, f26, f27, f29, f30⟩ := hF
      have d20 : L.getD 20 false = true := dep_of hd 20 (by rfl)
      have d21 : L.getD 21 false = true := dep_of hd 21 (by rfl)
      obtain rfl := (f20 d20).symm
      rw [d21, hk] at hJ
      obtain ⟨g9, rfl, hC9⟩ := HF41.out _ _ _ _ _ _ _ _ _ _ _ _ _ _ hJ
      have hR9 := HRW.out _ _ _ _ _ _ _ _ _ _ _ _ _ _ _ hJ
      simp only [Act.put, List.setIfInBounds_toArray, List.set_cons_zero, List.set_cons_succ]
      refine sx_append W rfl (.tmp 40) (.tmp 41) 50 rfl D 54 i7 (.slice none 0 0) 1 24 Tryz.underlying50 I7.out.1 I7.out.2.1 I7.out.2.2.1 I7.out.2.2.2 rfl (by decide) _ n _ rfl hR9 W.heap.size (some ⟨g9, 0, none⟩) 1 1 [nilR] rfl (reads_celR hC9 rfl) (by simp [Value.oneCell', nilR]) (by have := HSL.out; unfold maxLen; omega) (by have := HSL.out; omega) (HSZ.out _ _ _ _ _ _ _ _ _ _ _ _ _ _ _ _ hJ) ?_
      intro v9 w9 hown9 hg9 hat9
      replace hJ := H22.out _ _ _ _ _ _ _ _ _ _ _ _ _ _ _ _ hJ hg9 hown9 hat9
      refine kput (hK (x20, x21, x22, x23, x24, x25, x26, x27, x28, x29, x30, x31, x32, x33, x34, x35, x36, x37, x38, x39, (.slice wa n wc), (.slice (some ⟨g9, 0, none⟩) 1 1), v9, x43, x44, x45, x46, x47, x48) w9 ⟨(by simp only [getD_set_ne (listed := L) false (show (22 : Nat) ≠ 9 by decide), getD_set_ne (listed := L) false (show (22 : Nat) ≠ 10 by decide), getD_set_ne (listed := L) false (show (22 : Nat) ≠ 15 by decide), getD_set_ne (listed := L) false (show (22 : Nat) ≠ 16 by decide), getD_set_ne (listed := L) false (show (22 : Nat) ≠ 21 by decide), getD_set_ne (listed := L) false (show (22 : Nat) ≠ 25 by decide), getD_set_ne (listed := L) false (show (22 : Nat) ≠ 28 by decide), getD_set_ne (listed := L) false (show (22 : Nat) ≠ 31 by decide), set_now (L := L) hlt, d21]; exact hJ), fun h => getD_set_true (q25_6 (not_k h (by decide))), fun h => getD_set_true (q28_14 (not_k h (by decide))), fun h => getD_set_true (q31_20 (not_k h (by decide))), fun h => getD_set_true (q10_7 (not_k h (by decide))), fun h => getD_set_true (q8_7 (not_k h (by decide))), fun h => f0 (not_k h (by decide)), fun h => f1 (not_k h (by decide)), fun h => f2 (not_k h (by decide)), fun h => f3 (not_k h (by decide)), fun h => f4 (not_k h (by decide)), fun h => f5 (not_k h (by decide)), fun h => f6 (not_k h (by decide)), fun h => f7 (not_k h (by decide)), fun h => f8 (not_k h (by decide)), fun h => f11 (not_k h (by decide)), fun h => f12 (not_k h (by decide)), fun h => f13 (not_k h (by decide)), fun h => f14 (not_k h (by decide)), fun h => f17 (not_k h (by decide)), fun h => f18 (not_k h (by decide)), fun h => f19 (not_k h (by decide)), fun h => f20 (not_k h (by decide)), fun h => f23 (not_k h (by decide)), fun h => f24 (not_k h (by decide)), fun h => f26 (not_k h (by decide)), fun h => f27 (not_k h (by decide)), fun h => f29 (not_k h (by decide)), fun h => f30 (not_k h (by decide))⟩) ?_
      simp only [Act.put, List.setIfInBounds_toArray, List.set_cons_zero, List.set_cons_succ]
    · intro L x W hF hlt hk hd K' hK
      obtain ⟨x20, x21, x22, x23, x24, x25, x26, x27, x28, x29, x30, x31, x32, x33, x34, x35, x36, x37, x38, x39, x40, x41, x42, x43, x44, x45, x46, x47, x48⟩ := x
      obtain ⟨hJ, q25_6, q28_14, q31_20, q10_7, q8_7, f0, f1, f2, f3, f4, f5, f6, f7, f8, f11, f12, f13, f14, f17, f18, f19, f20, f23, f24, f26, f27, f29, f30⟩ := hF
      have d0 : L.getD 0 false = true := dep_of hd 0 (by rfl)
      obtain rfl := (f0 d0).symm
      simp only [Act.put, List.setIfInBounds_toArray, List.set_cons_zero, List.set_cons_succ]
      refine sx_val (v := .pointer (some ⟨r, 0, none⟩)) (W' := W) rfl (by kernel_rfl) ?_
      refine kput (hK ((.pointer (some ⟨r, 0, none⟩)), x21, x22, x23, x24, x25, x26, x27, x28, x29, x30, x31, x32, x33, x34, x35, x36, x37, x38, x39, x40, x41, x42, (.pointer (some ⟨r, 0, none⟩)), x44, x45, x46, x47, x48) W ⟨(by simp only [getD_set_ne (listed := L) false (show (23 : Nat) ≠ 9 by decide), getD_set_ne (listed := L) false (show (23 : Nat) ≠ 10 by decide), getD_set_ne (listed := L) false (show (23 : Nat) ≠ 15 by decide), getD_set_ne (listed := L) false (show (23 : Nat) ≠ 16 by decide), getD_set_ne (listed := L) false (show (23 : Nat) ≠ 21 by decide), getD_set_ne (listed := L) false (show (23 : Nat) ≠ 22 by decide), getD_set_ne (listed := L) false (show (23 : Nat) ≠ 25 by decide), getD_set_ne (listed := L) false (show (23 : Nat) ≠ 28 by decide), getD_set_ne (listed := L) false (show (23 : Nat) ≠ 31 by decide)]; exact hJ), fun h => getD_set_true (q25_6 (not_k h (by decide))), fun h => getD_set_true (q28_14 (not_k h (by decide))), fun h => getD_set_true (q31_20 (not_k h (by decide))), fun h => getD_set_true (q10_7 (not_k h (by decide))), fun h => getD_set_true (q8_7 (not_k h (by decide))), fun h => f0 (not_k h (by decide)), fun h => f1 (not_k h (by decide)), fun h => f2 (not_k h (by decide)), fun h => f3 (not_k h (by decide)), fun h => f4 (not_k h (by decide)), fun h => f5 (not_k h (by decide)), fun h => f6 (not_k h (by decide)), fun h => f7 (not_k h (by decide)), fun h => f8 (not_k h (by decide)), fun h => f11 (not_k h (by decide)), fun h => f12 (not_k h (by decide)), fun h => f13 (not_k h (by decide)), fun h => f14 (not_k h (by decide)), fun h => f17 (not_k h (by decide)), fun h => f18 (not_k h (by decide)), fun h => f19 (not_k h (by decide)), fun h => f20 (not_k h (by decide)), fun _ => rfl, fun h => f24 (not_k h (by decide)), fun h => f26 (not_k h (by decide)), fun h => f27 (not_k h (by decide)), fun h => f29 (not_k h (by decide)), fun h => f30 (not_k h (by decide))⟩) ?_
      simp only [Act.put, List.setIfInBounds_toArray, List.set_cons_zero, List.set_cons_succ]
    · intro L x W hF hlt hk hd K' hK
      obtain ⟨x20, x21, x22, x23, x24, x25, x26, x27, x28, x29, x30, x31, x32, x33, x34, x35, x36, x37, x38, x39, x40, x41, x42, x43, x44, x45, x46, x47, x48⟩ := x
      obtain ⟨hJ, q25_6, q28_14, q31_20, q10_7, q8_7, f0, f1, f2, f3, f4, f5, f6, f7, f8, f11, f12, f13, f14, f17, f18, f19, f20, f23, f24, f26, f27, f29, f30⟩ := hF
      have d23 : L.getD 23 false = true := dep_of hd 23 (by rfl)
      obtain rfl := (f23 d23).symm
      simp only [Act.put, List.setIfInBounds_toArray, List.set_cons_zero, List.set_cons_succ]
      refine sx_val (v := .pointer (some ⟨r, 0, none⟩)) (W' := W) rfl (by kernel_rfl) ?_
      refine kput (hK (x20, x21, x22, x23, x24, x25, x26, x27, x28, x29, x30, x31, x32, x33, x34, x35, x36, x37, x38, x39, x40, x41, x42, (.pointer (some ⟨r, 0, none⟩)), (.pointer (some ⟨r, 0, none⟩)), x45, x46, x47, x48) W ⟨(by simp only [getD_set_ne (listed := L) false (show (24 : Nat) ≠ 9 by decide), getD_set_ne (listed := L) false (show (24 : Nat) ≠ 10 by decide), getD_set_ne (listed := L) false (show (24 : Nat) ≠ 15 by decide), getD_set_ne (listed := L) false (show (24 : Nat) ≠ 16 by decide), getD_set_ne (listed := L) false (show (24 : Nat) ≠ 21 by decide), getD_set_ne (listed := L) false (show (24 : Nat) ≠ 22 by decide), getD_set_ne (listed := L) false (show (24 : Nat) ≠ 25 by decide), getD_set_ne (listed := L) false (show (24 : Nat) ≠ 28 by decide), getD_set_ne (listed := L) false (show (24 : Nat) ≠ 31 by decide)]; exact hJ), fun h => getD_set_true (q25_6 (not_k h (by decide))), fun h => getD_set_true (q28_14 (not_k h (by decide))), fun h => getD_set_true (q31_20 (not_k h (by decide))), fun h => getD_set_true (q10_7 (not_k h (by decide))), fun h => getD_set_true (q8_7 (not_k h (by decide))), fun h => f0 (not_k h (by decide)), fun h => f1 (not_k h (by decide)), fun h => f2 (not_k h (by decide)), fun h => f3 (not_k h (by decide)), fun h => f4 (not_k h (by decide)), fun h => f5 (not_k h (by decide)), fun h => f6 (not_k h (by decide)), fun h => f7 (not_k h (by decide)), fun h => f8 (not_k h (by decide)), fun h => f11 (not_k h (by decide)), fun h => f12 (not_k h (by decide)), fun h => f13 (not_k h (by decide)), fun h => f14 (not_k h (by decide)), fun h => f17 (not_k h (by decide)), fun h => f18 (not_k h (by decide)), fun h => f19 (not_k h (by decide)), fun h => f20 (not_k h (by decide)), fun h => f23 (not_k h (by decide)), fun _ => rfl, fun h => f26 (not_k h (by decide)), fun h => f27 (not_k h (by decide)), fun h => f29 (not_k h (by decide)), fun h => f30 (not_k h (by decide))⟩) ?_
      simp only [Act.put, List.setIfInBounds_toArray, List.set_cons_zero, List.set_cons_succ]
    · intro L x W hF hlt hk hd K' hK
      obtain ⟨x20, x21, x22, x23, x24, x25, x26, x27, x28, x29, x30, x31, x32, x33, x34, x35, x36, x37, x38, x39, x40, x41, x42, x43, x44, x45, x46, x47, x48⟩ := x
      obtain ⟨hJ, q25_6, q28_14, q31_20, q10_7, q8_7, f0, f1, f2, f3, f4, f5, f6, f7, f8, f11, f12, f13, f14, f17, f18, f19, f20, f23, f24, f26, f27, f29, f30⟩ := hF
      have d24 : L.getD 24 false = true := dep_of hd 24 (by rfl)
      have d10 : L.getD 10 false = true := dep_of hd 10 (by rfl)
      obtain rfl := (f24 d24).symm
      rw [d10, hk] at hJ
      obtain ⟨a9, c9, rfl⟩ := HSA.out _ _ _ _ _ _ _ _ _ _ _ _ _ _ _ hJ
      obtain ⟨cs9, hz9, hC9⟩ := HCL.out _ _ _ _ _ _ _ _ _ _ _ _ _ _ _ _ hJ
      replace hJ := H25.out _ _ _ _ _ _ _ _ _ _ _ _ _ _ hJ
      simp only [Act.put, List.setIfInBounds_toArray, List.set_cons_zero, List.set_cons_succ]
      refine sx_skip rfl (st_atms rfl (by rfl) (by rfl) W hC9 (some_at hz9 (by decide))) ?_
      refine kput (hK (x20, x21, x22, x23, x24, x25, x26, x27, x28, x29, (.slice a9 (n + 1) c9), x31, x32, x33, x34, x35, x36, x37, x38, x39, x40, x41, x42, x43, (.pointer (some ⟨r, 0, none⟩)), x45, x46, x47, x48) _ ⟨(by simp only [getD_set_ne (listed := L) false (show (25 : Nat) ≠ 9 by decide), getD_set_ne (listed := L) false (show (25 : Nat) ≠ 10 by decide), getD_set_ne (listed := L) false (show (25 : Nat) ≠ 15 by decide), getD_set_ne (listed := L) false (show (25 : Nat) ≠ 16 by decide), getD_set_ne (listed := L) false (show (25 : Nat) ≠ 21 by decide), getD_set_ne (listed := L) false (show (25 : Nat) ≠ 22 by decide), getD_set_ne (listed := L) false (show (25 : Nat) ≠ 28 by decide), getD_set_ne (listed := L) false (show (25 : Nat) ≠ 31 by decide), set_now (L := L) hlt, d10]; exact hJ), fun _ => getD_set_true (dep_of hd 6 (by rfl)), fun h => getD_set_true (q28_14 (not_k h (by decide))), fun h => getD_set_true (q31_20 (not_k h (by decide))), fun h => getD_set_true (q10_7 (not_k h (by decide))), fun h => getD_set_true (q8_7 (not_k h (by decide))), fun h => f0 (not_k h (by decide)), fun h => f1 (not_k h (by decide)), fun h => f2 (not_k h (by decide)), fun h => f3 (not_k h (by decide)), fun h => f4 (not_k h (by decide)), fun h => f5 (not_k h (by decide)), fun h => f6 (not_k h (by decide)), fun h => f7 (not_k h (by decide)), fun h => f8 (not_k h (by decide)), fun h => f11 (not_k h (by decide)), fun h => f12 (not_k h (by decide)), fun h => f13 (not_k h (by decide)), fun h => f14 (not_k h (by decide)), fun h => f17 (not_k h (by decide)), fun h => f18 (not_k h (by decide)), fun h => f19 (not_k h (by decide)), fun h => f20 (not_k h (by decide)), fun h => f23 (not_k h (by decide)), fun h => f24 (not_k h (by decide)), fun h => f26 (not_k h (by decide)), fun h => f27 (not_k h (by decide)), fun h => f29 (not_k h (by decide)), fun h => f30 (not_k h (by decide))⟩) ?_
      simp only [Act.put, List.setIfInBounds_toArray, List.set_cons_zero, List.set_cons_succ]
    · intro L x W hF hlt hk hd K' hK
      obtain ⟨x20, x21, x22, x23, x24, x25, x26, x27, x28, x29, x30, x31, x32, x33, x34, x35, x36, x37, x38, x39, x40, x41, x42, x43, x44, x45, x46, x47, x48⟩ := x
      obtain ⟨hJ, q25_6, q28_14, q31_20, q10_7, q8_7, f0, f1, f2, f3, f4, f5, f6, f7, f8, f11, f12, f13, f14, f17, f18, f19, f20, f23, f24, f26, f27, f29, f30⟩ := hF
      have d1 : L.getD 1 false = true := dep_of hd 1 (by rfl)
      obtain rfl := (f1 d1).symm
      simp only [Act.put, List.setIfInBounds_toArray, List.set_cons_zero, List.set_cons_succ]
      refine sx_val (v := .pointer (some ⟨r, 0, none⟩)) (W' := W) rfl (by kernel_rfl) ?_
      refine kput (hK (x20, (.pointer (some ⟨r, 0, none⟩)), x22, x23, x24, x25, x26, x27, x28, x29, x30, x31, x32, x33, x34, x35, x36, x37, x38, x39, x40, x41, x42, x43, x44, (.pointer (some ⟨r, 0, none⟩)), x46, x47, x48) W ⟨(by simp only [getD_set_ne (listed := L) false (show (26 : Nat) ≠ 9 by decide), getD_set_ne (listed := L) false (show (26 : Nat) ≠ 10 by decide), getD_set_ne (listed := L) false (show (26 : Nat) ≠ 15 by decide), getD_set_ne (listed := L) false (show (26 : Nat) ≠ 16 by decide), getD_set_ne (listed := L) false (show (26 : Nat) ≠ 21 by decide), getD_set_ne (listed := L) false (show (26 : Nat) ≠ 22 by decide), getD_set_ne (listed := L) false (show (26 : Nat) ≠ 25 by decide), getD_set_ne (listed := L) false (show (26 : Nat) ≠ 28 by decide), getD_set_ne (listed := L) false (show (26 : Nat) ≠ 31 by decide)]; exact hJ), fun h => getD_set_true (q25_6 (not_k h (by decide))), fun h => getD_set_true (q28_14 (not_k h (by decide))), fun h => getD_set_true (q31_20 (not_k h (by decide))), fun h => getD_set_true (q10_7 (not_k h (by decide))), fun h => getD_set_true (q8_7 (not_k h (by decide))), fun h => f0 (not_k h (by decide)), fun h => f1 (not_k h (by decide)), fun h => f2 (not_k h (by decide)), fun h => f3 (not_k h (by decide)), fun h => f4 (not_k h (by decide)), fun h => f5 (not_k h (by decide)), fun h => f6 (not_k h (by decide)), fun h => f7 (not_k h (by decide)), fun h => f8 (not_k h (by decide)), fun h => f11 (not_k h (by decide)), fun h => f12 (not_k h (by decide)), fun h => f13 (not_k h (by decide)), fun h => f14 (not_k h (by decide)), fun h => f17 (not_k h (by decide)), fun h => f18 (not_k h (by decide)), fun h => f19 (not_k h (by decide)), fun h => f20 (not_k h (by decide)), fun h => f23 (not_k h (by decide)), fun h => f24 (not_k h (by decide)), fun _ => rfl, fun h => f27 (not_k h (by decide)), fun h => f29 (not_k h (by decide)), fun h => f30 (not_k h (by decide))⟩) ?_
      simp only [Act.put, List.setIfInBounds_toArray, List.set_cons_zero, List.set_cons_succ]
    · intro L x W hF hlt hk hd K' hK
      obtain ⟨x20, x21, x22, x23, x24, x25, x26, x27, x28, x29, x30, x31, x32, x33, x34, x35, x36, x37, x38, x39, x40, x41, x42, x43, x44, x45, x46, x47, x48⟩ := x
      obtain ⟨hJ, q25_6, q28_14, q31_20, q10_7, q8_7, f0, f1, f2, f3, f4, f5, f6, f7, f8, f11, f12, f13, f14, f17, f18, f19, f20, f23, f24, f26, f27, f29, f30⟩ := hF
      have d26 : L.getD 26 false = true := dep_of hd 26 (by rfl)
      obtain rfl := (f26 d26).symm
      simp only [Act.put, List.setIfInBounds_toArray, List.set_cons_zero, List.set_cons_succ]
      refine sx_val (v := .pointer (some ⟨r, 1, none⟩)) (W' := W) rfl (by kernel_rfl) ?_
      refine kput (hK (x20, x21, x22, x23, x24, x25, x26, x27, x28, x29, x30, x31, x32, x33, x34, x35, x36, x37, x38, x39, x40, x41, x42, x43, x44, (.pointer (some ⟨r, 0, none⟩)), (.pointer (some ⟨r, 1, none⟩)), x47, x48) W ⟨(by simp only [getD_set_ne (listed := L) false (show (27 : Nat) ≠ 9 by decide), getD_set_ne (listed := L) false (show (27 : Nat) ≠ 10 by decide), getD_set_ne (listed := L) false (show (27 : Nat) ≠ 15 by decide), getD_set_ne (listed := L) false (show (27 : Nat) ≠ 16 by decide), getD_set_ne (listed := L) false (show (27 : Nat) ≠ 21 by decide), getD_set_ne (listed := L) false (show (27 : Nat) ≠ 22 by decide), getD_set_ne (listed := L) false (show (27 : Nat) ≠ 25 by decide), getD_set_ne (listed := L) false (show (27 : Nat) ≠ 28 by decide), getD_set_ne (listed := L) false (show (27 : Nat) ≠ 31 by decide)]; exact hJ), fun h => getD_set_true (q25_6 (not_k h (by decide))), fun h => getD_set_true (q28_14 (not_k h (by decide))), fun h => getD_set_true (q31_20 (not_k h (by decide))), fun h => getD_set_true (q10_7 (not_k h (by decide))), fun h => getD_set_true (q8_7 (not_k h (by decide))), fun h => f0 (not_k h (by decide)), fun h => f1 (not_k h (by decide)), fun h => f2 (not_k h (by decide)), fun h => f3 (not_k h (by decide)), fun h => f4 (not_k h (by decide)), fun h => f5 (not_k h (by decide)), fun h => f6 (not_k h (by decide)), fun h => f7 (not_k h (by decide)), fun h => f8 (not_k h (by decide)), fun h => f11 (not_k h (by decide)), fun h => f12 (not_k h (by decide)), fun h => f13 (not_k h (by decide)), fun h => f14 (not_k h (by decide)), fun h => f17 (not_k h (by decide)), fun h => f18 (not_k h (by decide)), fun h => f19 (not_k h (by decide)), fun h => f20 (not_k h (by decide)), fun h => f23 (not_k h (by decide)), fun h => f24 (not_k h (by decide)), fun h => f26 (not_k h (by decide)), fun _ => rfl, fun h => f29 (not_k h (by decide)), fun h => f30 (not_k h (by decide))⟩) ?_
      simp only [Act.put, List.setIfInBounds_toArray, List.set_cons_zero, List.set_cons_succ]
    · intro L x W hF hlt hk hd K' hK
      obtain ⟨x20, x21, x22, x23, x24, x25, x26, x27, x28, x29, x30, x31, x32, x33, x34, x35, x36, x37, x38, x39, x40, x41, x42, x43, x44, x45, x46, x47, x48⟩ := x
      obtain ⟨hJ, q25_6, q28_14, q31_20, q10_7, q8_7, f0, f1, f2, f3, f4, f5, f6, f7, f8, f11, f12, f13, f14, f17, f18, f19, f20, f23, f24, f26, f27, f29, f30⟩ := hF
      have d27 : L.getD 27 false = true := dep_of hd 27 (by rfl)
      have d16 : L.getD 16 false = true := dep_of hd 16 (by rfl)
      obtain rfl := (f27 d27).symm
      rw [d16, hk] at hJ
      obtain ⟨a9, c9, rfl⟩ := HSG.out _ _ _ _ _ _ _ _ _ _ _ _ _ _ _ hJ
      obtain ⟨cs9, hz9, hC9⟩ := HCL.out _ _ _ _ _ _ _ _ _ _ _ _ _ _ _ _ hJ
      replace hJ := H28.out _ _ _ _ _ _ _ _ _ _ _ _ _ _ hJ
      simp only [Act.put, List.setIfInBounds_toArray, List.set_cons_zero, List.set_cons_succ]
      refine sx_skip rfl (st_atmss rfl (by rfl) (by rfl) W hC9 (some_at hz9 (by decide))) ?_
      refine kput (hK (x20, x21, x22, x23, x24, x25, x26, x27, x28, x29, x30, x31, x32, x33, x34, x35, (.slice a9 (n + 1) c9), x37, x38, x39, x40, x41, x42, x43, x44, x45, (.pointer (some ⟨r, 1, none⟩)), x47, x48) _ ⟨(by simp only [getD_set_ne (listed := L) false (show (28 : Nat) ≠ 9 by decide), getD_set_ne (listed := L) false (show (28 : Nat) ≠ 10 by decide), getD_set_ne (listed := L) false (show (28 : Nat) ≠ 15 by decide), getD_set_ne (listed := L) false (show (28 : Nat) ≠ 16 by decide), getD_set_ne (listed := L) false (show (28 : Nat) ≠ 21 by decide), getD_set_ne (listed := L) false (show (28 : Nat) ≠ 22 by decide), getD_set_ne (listed := L) false (show (28 : Nat) ≠ 25 by decide), getD_set_ne (listed := L) false (show (28 : Nat) ≠ 31 by decide), set_now (L := L) hlt, d16]; exact hJ), fun h => getD_set_true (q25_6 (not_k h (by decide))), fun _ => getD_set_true (dep_of hd 14 (by rfl)), fun h => getD_set_true (q31_20 (not_k h (by decide))), fun h => getD_set_true (q10_7 (not_k h (by decide))), fun h => getD_set_true (q8_7 (not_k h (by decide))), fun h => f0 (not_k h (by decide)), fun h => f1 (not_k h (by decide)), fun h => f2 (not_k h (by decide)), fun h => f3 (not_k h (by decide)), fun h => f4 (not_k h (by decide)), fun h => f5 (not_k h (by decide)), fun h => f6 (not_k h (by decide)), fun h => f7 (not_k h (by decide)), fun h => f8 (not_k h (by decide)), fun h => f11 (not_k h (by decide)), fun h => f12 (not_k h (by decide)), fun h => f13 (not_k h (by decide)), fun h => f14 (not_k h (by decide)), fun h => f17 (not_k h (by decide)), fun h => f18 (not_k h (by decide)), fun h => f19 (not_k h (by decide)), fun h => f20 (not_k h (by decide)), fun h => f23 (not_k h (by decide)), fun h => f24 (not_k h (by decide)), fun h => f26 (not_k h (by decide)), fun h => f27 (not_k h (by decide)), fun h => f29 (not_k h (by decide)), fun h => f30 (not_k h (by decide))⟩) ?_
      simp only [Act.put, List.setIfInBounds_toArray, List.set_cons_zero, List.set_cons_succ]
    · intro L x W hF hlt hk hd K' hK
      obtain ⟨x20, x21, x22, x23, x24, x25, x26, x27, x28, x29, x30, x31, x32, x33, x34, x35, x36, x37, x38, x39, x40, x41, x42, x43, x44, x45, x46, x47, x48⟩ := x
      obtain ⟨hJ, q25_6, q28_14, q31_20, q10_7, q8_7, f0, f1, f2, f3, f4, f5, f6, f7, f8, f11, f12, f13, f14, f17, f18, f19, f20, f23, f24, f26, f27, f29, f30⟩ := hF
      have d2 : L.getD 2 false = true := dep_of hd 2 (by rfl)
      obtain rfl := (f2 d2).symm
      simp only [Act.put, List.setIfInBounds_toArray, List.set_cons_zero, List.set_cons_succ]
      refine sx_val (v := .pointer (some ⟨r, 0, none⟩)) (W' := W) rfl (by kernel_rfl) ?_
      refine kput (hK (x20, x21, (.pointer (some ⟨r, 0, none⟩)), x23, x24, x25, x26, x27, x28, x29, x30, x31, x32, x33, x34, x35, x36, x37, x38, x39, x40, x41, x42, x43, x44, x45, x46, (.pointer (some ⟨r, 0, none⟩)), x48) W ⟨(by simp only [getD_set_ne (listed := L) false (show (29 : Nat) ≠ 9 by decide), getD_set_ne (listed := L) false (show (29 : Nat) ≠ 10 by decide), getD_set_ne (listed := L) false (show (29 : Nat) ≠ 15 by decide), getD_set_ne (listed := L) false (show (29 : Nat) ≠ 16 by decide), getD_set_ne (listed := L) false (show (29 : Nat) ≠ 21 by decide), getD_set_ne (listed := L) false (show (29 : Nat) ≠ 22 by decide), getD_set_ne (listed := L) false (show (29 : Nat) ≠ 25 by decide), getD_set_ne (listed := L) false (show (29 : Nat) ≠ 28 by decide), getD_set_ne (listed := L) false (show (29 : Nat) ≠ 31 by decide)]; exact hJ), fun h => getD_set_true (q25_6 (not_k h (by decide))), fun h => getD_set_true (q28_14 (not_k h (by decide))), fun h => getD_set_true (q31_20 (not_k h (by decide))), fun h => getD_set_true (q10_7 (not_k h (by decide))), fun h => getD_set_true (q8_7 (not_k h (by decide))), fun h => f0 (not_k h (by decide)), fun h => f1 (not_k h (by decide)), fun h => f2 (not_k h (by decide)), fun h => f3 (not_k h (by decide)), fun h => f4 (not_k h (by decide)), fun h => f5 (not_k h (by decide)), fun h => f6 (not_k h (by decide)), fun h => f7 (not_k h (by decide)), fun h => f8 (not_k h (by decide)), fun h => f11 (not_k h (by decide)), fun h => f12 (not_k h (by decide)), fun h => f13 (not_k h (by decide)), fun h => f14 (not_k h (by decide)), fun h => f17 (not_k h (by decide)), fun h => f18 (not_k h (by decide)), fun h => f19 (not_k h (by decide)), fun h => f20 (not_k h (by decide)), fun h => f23 (not_k h (by decide)), fun h => f24 (not_k h (by decide)), fun h => f26 (not_k h (by decide)), fun h => f27 (not_k h (by decide)), fun _ => rfl, fun h => f30 (not_k h (by decide))⟩) ?_
      simp only [Act.put, List.setIfInBounds_toArray, List.set_cons_zero, List.set_cons_succ]
    · intro L x W hF hlt hk hd K' hK
      obtain ⟨x20, x21, x22, x23, x24, x25, x26, x27, x28, x29, x30, x31, x32, x33, x34, x35, x36, x37, x38, x39, x40, x41, x42, x43, x44, x45, x46, x47, x48⟩ := x
      obtain ⟨hJ, q25_6, q28_14, q31_20, q10_7, q8_7, f0, f1, f2, f3, f4, f5, f6, f7, f8, f11, f12, f13, f14, f17, f18, f19, f20, f23, f24, f26, f27, f29, f30⟩ := hF
      have d29 : L.getD 29 false = true := dep_of hd 29 (by rfl)
      obtain rfl := (f29 d29).symm
      simp only [Act.put, List.setIfInBounds_toArray, List.set_cons_zero, List.set_cons_succ]
      refine sx_val (v := .pointer (some ⟨r, 2, none⟩)) (W' := W) rfl (by kernel_rfl) ?_
      refine kput (hK (x20, x21, x22, x23, x24, x25, x26, x27, x28, x29, x30, x31, x32, x33, x34, x35, x36, x37, x38, x39, x40, x41, x42, x43, x44, x45, x46, (.pointer (some ⟨r, 0, none⟩)), (.pointer (some ⟨r, 2, none⟩))) W ⟨(by simp only [getD_set_ne (listed := L) false (show (30 : Nat) ≠ 9 by decide), getD_set_ne (listed := L) false (show (30 : Nat) ≠ 10 by decide), getD_set_ne (listed := L) false (show (30 : Nat) ≠ 15 by decide), getD_set_ne (listed := L) false (show (30 : Nat) ≠ 16 by decide), getD_set_ne (listed := L) false (show (30 : Nat) ≠ 21 by decide), getD_set_ne (listed := L) false (show (30 : Nat) ≠ 22 by decide), getD_set_ne (listed := L) false (show (30 : Nat) ≠ 25 by decide), getD_set_ne (listed := L) false (show (30 : Nat) ≠ 28 by decide), getD_set_ne (listed := L) false (show (30 : Nat) ≠ 31 by decide)]; exact hJ), fun h => getD_set_true (q25_6 (not_k h (by decide))), fun h => getD_set_true (q28_14 (not_k h (by decide))), fun h => getD_set_true (q31_20 (not_k h (by decide))), fun h => getD_set_true (q10_7 (not_k h (by decide))), fun h => getD_set_true (q8_7 (not_k h (by decide))), fun h => f0 (not_k h (by decide)), fun h => f1 (not_k h (by decide)), fun h => f2 (not_k h (by decide)), fun h => f3 (not_k h (by decide)), fun h => f4 (not_k h (by decide)), fun h => f5 (not_k h (by decide)), fun h => f6 (not_k h (by decide)), fun h => f7 (not_k h (by decide)), fun h => f8 (not_k h (by decide)), fun h => f11 (not_k h (by decide)), fun h => f12 (not_k h (by decide)), fun h => f13 (not_k h (by decide)), fun h => f14 (not_k h (by decide)), fun h => f17 (not_k h (by decide)), fun h => f18 (not_k h (by decide)), fun h => f19 (not_k h (by decide)), fun h => f20 (not_k h (by decide)), fun h => f23 (not_k h (by decide)), fun h => f24 (not_k h (by decide)), fun h => f26 (not_k h (by decide)), fun h => f27 (not_k h (by decide)), fun h => f29 (not_k h (by decide)), fun _ => rfl⟩) ?_
      simp only [Act.put, List.setIfInBounds_toArray, List.set_cons_zero, List.set_cons_succ]
    · intro L x W hF hlt hk hd K' hK
      obtain ⟨x20, x21, x22, x23, x24, x25, x26, x27, x28, x29, x30, x31, x32, x33, x34, x35, x36, x37, x38, x39, x40, x41, x42, x43, x44, x45, x46, x47, x48⟩ := x
      obtain ⟨hJ, q25_6, q28_14, q31_20, q10_7, q8_7, f0, f1, f2, f3, f4, f5, f6, f7, f8, f11, f12, f13, f14, f17, f18, f19, f20, f23, f24, f26, f27, f29, f30⟩ := hF
      have d30 : L.getD 30 false = true := dep_of hd 30 (by rfl)
      have d22 : L.getD 22 false = true := dep_of hd 22 (by rfl)
      obtain rfl := (f30 d30).symm
      rw [d22, hk] at hJ
      obtain ⟨a9, c9, rfl⟩ := HSW.out _ _ _ _ _ _ _ _ _ _ _ _ _ _ _ hJ
      obtain ⟨cs9, hz9, hC9⟩ := HCL.out _ _ _ _ _ _ _ _ _ _ _ _ _ _ _ _ hJ
      replace hJ := H31.out _ _ _ _ _ _ _ _ _ _ _ _ _ _ hJ
      simp only [Act.put, List.setIfInBounds_toArray, List.set_cons_zero, List.set_cons_succ]
      refine sx_skip rfl (st_intss rfl (by rfl) (by rfl) W hC9 (some_at hz9 (by decide))) ?_
      refine kput (hK (x20, x21, x22, x23, x24, x25, x26, x27, x28, x29, x30, x31, x32, x33, x34, x35, x36, x37, x38, x39, x40, x41, (.slice a9 (n + 1) c9), x43, x44, x45, x46, x47, (.pointer (some ⟨r, 2, none⟩))) _ ⟨(by simp only [getD_set_ne (listed := L) false (show (31 : Nat) ≠ 9 by decide), getD_set_ne (listed := L) false (show (31 : Nat) ≠ 10 by decide), getD_set_ne (listed := L) false (show (31 : Nat) ≠ 15 by decide), getD_set_ne (listed := L) false (show (31 : Nat) ≠ 16 by decide), getD_set_ne (listed := L) false (show (31 : Nat) ≠ 21 by decide), getD_set_ne (listed := L) false (show (31 : Nat) ≠ 22 by decide), getD_set_ne (listed := L) false (show (31 : Nat) ≠ 25 by decide), getD_set_ne (listed := L) false (show (31 : Nat) ≠ 28 by decide), set_now (L := L) hlt, d22]; exact hJ), fun h => getD_set_true (q25_6 (not_k h (by decide))), fun h => getD_set_true (q28_14 (not_k h (by decide))), fun _ => getD_set_true (dep_of hd 20 (by rfl)), fun h => getD_set_true (q10_7 (not_k h (by decide))), fun h => getD_set_true (q8_7 (not_k h (by decide))), fun h => f0 (not_k h (by decide)), fun h => f1 (not_k h (by decide)), fun h => f2 (not_k h (by decide)), fun h => f3 (not_k h (by decide)), fun h => f4 (not_k h (by decide)), fun h => f5 (not_k h (by decide)), fun h => f6 (not_k h (by decide)), fun h => f7 (not_k h (by decide)), fun h => f8 (not_k h (by decide)), fun h => f11 (not_k h (by decide)), fun h => f12 (not_k h (by decide)), fun h => f13 (not_k h (by decide)), fun h => f14 (not_k h (by decide)), fun h => f17 (not_k h (by decide)), fun h => f18 (not_k h (by decide)), fun h => f19 (not_k h (by decide)), fun h => f20 (not_k h (by decide)), fun h => f23 (not_k h (by decide)), fun h => f24 (not_k h (by decide)), fun h => f26 (not_k h (by decide)), fun h => f27 (not_k h (by decide)), fun h => f29 (not_k h (by decide)), fun h => f30 (not_k h (by decide))⟩) ?_
      simp only [Act.put, List.setIfInBounds_toArray, List.set_cons_zero, List.set_cons_succ]
  case stop =>
    intro L x W hF hall
    obtain ⟨x20, x21, x22, x23, x24, x25, x26, x27, x28, x29, x30, x31, x32, x33, x34, x35, x36, x37, x38, x39, x40, x41, x42, x43, x44, x45, x46, x47, x48⟩ := x
    obtain ⟨hJ, q25_6, q28_14, q31_20, q10_7, q8_7, f0, f1, f2, f3, f4, f5, f6, f7, f8, f11, f12, f13, f14, f17, f18, f19, f20, f23, f24, f26, f27, f29, f30⟩ := hF
    simp only [hall 9 (Nat.le_of_ble_eq_true rfl), hall 10 (Nat.le_of_ble_eq_true rfl), hall 15 (Nat.le_of_ble_eq_true rfl), hall 16 (Nat.le_of_ble_eq_true rfl), hall 21 (Nat.le_of_ble_eq_true rfl), hall 22 (Nat.le_of_ble_eq_true rfl), hall 25 (Nat.le_of_ble_eq_true rfl), hall 28 (Nat.le_of_ble_eq_true rfl), hall 31 (Nat.le_of_ble_eq_true rfl)] at hJ
    obtain rfl := (f0 (hall 0 (Nat.le_of_ble_eq_true rfl))).symm
    obtain rfl := (f1 (hall 1 (Nat.le_of_ble_eq_true rfl))).symm
    obtain rfl := (f2 (hall 2 (Nat.le_of_ble_eq_true rfl))).symm
    obtain rfl := (f3 (hall 3 (Nat.le_of_ble_eq_true rfl))).symm
    obtain rfl := (f4 (hall 4 (Nat.le_of_ble_eq_true rfl))).symm
    obtain rfl := (f5 (hall 5 (Nat.le_of_ble_eq_true rfl))).symm
    obtain rfl := (f6 (hall 6 (Nat.le_of_ble_eq_true rfl))).symm
    obtain rfl := (f7 (hall 7 (Nat.le_of_ble_eq_true rfl))).symm
    obtain rfl := (f8 (hall 8 (Nat.le_of_ble_eq_true rfl))).symm
    obtain rfl := (f11 (hall 11 (Nat.le_of_ble_eq_true rfl))).symm
    obtain rfl := (f12 (hall 12 (Nat.le_of_ble_eq_true rfl))).symm
    obtain rfl := (f13 (hall 13 (Nat.le_of_ble_eq_true rfl))).symm
    obtain rfl := (f14 (hall 14 (Nat.le_of_ble_eq_true rfl))).symm
    obtain rfl := (f17 (hall 17 (Nat.le_of_ble_eq_true rfl))).symm
    obtain rfl := (f18 (hall 18 (Nat.le_of_ble_eq_true rfl))).symm
    obtain rfl := (f19 (hall 19 (Nat.le_of_ble_eq_true rfl))).symm
    obtain rfl := (f20 (hall 20 (Nat.le_of_ble_eq_true rfl))).symm
    obtain rfl := (f23 (hall 23 (Nat.le_of_ble_eq_true rfl))).symm
    obtain rfl := (f24 (hall 24 (Nat.le_of_ble_eq_true rfl))).symm
    obtain rfl := (f26 (hall 26 (Nat.le_of_ble_eq_true rfl))).symm
    obtain rfl := (f27 (hall 27 (Nat.le_of_ble_eq_true rfl))).symm
    obtain rfl := (f29 (hall 29 (Nat.le_of_ble_eq_true rfl))).symm
    obtain rfl := (f30 (hall 30 (Nat.le_of_ble_eq_true rfl))).symm
    clear q25_6 q28_14 q31_20 q10_7 q8_7 f0 f1 f2 f3 f4 f5 f6 f7 f8 f11 f12 f13 f14 f17 f18 f19 f20 f23 f24 f26 f27 f29 f30 hall
    simp only [Act.put, List.setIfInBounds_toArray, List.set_cons_zero, List.set_cons_succ]
    obtain ⟨a9, c9, rfl⟩ := HSA2.out _ _ _ _ _ _ _ hJ
    have r9 := HR0.out _ _ _ _ _ _ _ hJ
    have hend := HEND.out _ _ _ _ _ _ _ hJ
    clear hJ
    go_wp2_with fail
    go_ret3
    exact ⟨by show Ending.returned (.tuple #[.int .i64 (wrap64 (n : Int)), .bool true, .int .i64 0]) = _; rw [show wrap64 (n : Int) = (n : Int) from IntWalk.wrap64_in _ (by have := HSL.out; omega)], hend⟩
end Go.Proofs.YtbgdljcgbhhfdaaGreatDoor

namespace Go.Proofs.YtbgdljcgbhhfdaaGreatDoor
open Go.RowKit Go.Maps Go.WideMaps

theorem ROp.split {Z : Nat → Prop} {D r : Nat} {w w' : World} {S' : List TCall} (h : ROp Z D r w w' S') : ∃ Z', Rtb w' D r Z' S' ∧ Keep Z w w' ∧ ∀ b, b < w.heap.size → ¬ Z b → ¬ Z' b :=
  ⟨_, h.tab, h.keep, fun b hb hn hz => hz.elim hn (fun hz => by omega)⟩
theorem Rtb.since {W W' w0 : World} {D r : Nat} {Z : Nat → Prop} {S : List TCall} (h : Rtb W D r Z S) (hk : Keep Z W W') (h0 : Since w0 W) (hB : w0.heap.size ≤ D) : Since w0 W' :=
  hk.since h0 fun x hx => Nat.le_trans hB (h.low x hx).1
/-- A call's number, within. -/
abbrev InS (S : List TCall) (i : Int) : Prop := 0 ≤ i ∧ i.toNat < S.length
theorem inS_nat {S : List TCall} {i : Int} (h : InS S i) : ∃ k : Nat, i = (k : Int) ∧ k < S.length ∧ i.toNat = k := ⟨i.toNat, by omega, h.2, rfl⟩
theorem inS_not {S : List TCall} {i : Int} (h : ¬ InS S i) : i < 0 ∨ (S.length : Int) ≤ i := by
  unfold InS at h; omega
def openU (S : List TCall) (a : Atm) : Int × Bool × Int × List TCall := if checkA a = 0 then (((openS S a).1 : Int), (openS S a).2.1, 0, (openS S a).2.2) else (0, false, 2, S)
def addU (S : List TCall) (i : Int) (a : Atm) : Bool × Int × List TCall :=
  if h : InS S i then (if addOK (S[i.toNat]'h.2).1 a = true then (if a ∈ (S[i.toNat]'h.2).2.1 then (false, 0, S) else (true, 0, S.set i.toNat (addC (S[i.toNat]'h.2) a))) else (false, 2, S)) else (false, 13, S)
def waitU (S : List TCall) (i x : Int) : Int × List TCall := if h : InS S i then (0, S.set i.toNat (waitC (S[i.toNat]'h.2) x)) else (13, S)
def zero18 : Atm := ([], [], 0, (false, []), (false, []), (false, []), (false, []))
def callU (S : List TCall) (i : Int) : Atm × Bool := if h : InS S i then ((S[i.toNat]'h.2).1, true) else (zero18, false)
def whoU (S : List TCall) (i : Int) : List Int := if h : InS S i then (S[i.toNat]'h.2).2.2 else []
def ansU (S : List TCall) (i : Int) : List Atm := if h : InS S i then (S[i.toNat]'h.2).2.1 else []
/-- What the calls are, after so many. -/
structure OkS (k : Nat) (S : List TCall) : Prop where
  len : S.length ≤ k
  all : ∀ c ∈ S, checkA c.1 = 0 ∧ c.2.1.length ≤ k ∧ c.2.2.length ≤ k
  cnt : cntS S ≤ k
theorem OkS.nil : OkS 0 [] := ⟨Nat.le_refl _, fun _ h => (by cases h), Nat.le_refl _⟩
theorem OkS.more {k : Nat} {S : List TCall} (h : OkS k S) : OkS (k + 1) S := ⟨by have := h.len; omega, fun c hc => ⟨(h.all c hc).1, by have := (h.all c hc).2.1; omega, by have := (h.all c hc).2.2; omega⟩, by have := h.cnt; omega⟩
theorem cntS_snoc (S : List TCall) (c : TCall) : cntS (S ++ [c]) = cntS S + c.2.1.length := by
  unfold cntS
  rw [List.map_append, List.sum_append]
  simp
theorem OkS.open {k : Nat} {S : List TCall} (h : OkS k S) (a : Atm) : OkS (k + 1) (openU S a).2.2.2 := by
  unfold openU
  by_cases hk : checkA a = 0
  · rw [if_pos hk]
    show OkS (k + 1) (openS S a).2.2
    unfold openS
    cases posF (S.map fun c => c.1) (canA a) 0 with
    | some j => exact h.more
    | none =>
      show OkS (k + 1) (S ++ [(canA a, [], [])])
      refine ⟨by rw [List.length_append, List.length_singleton]; have := h.len; omega, fun c hc => ?_, by rw [cntS_snoc]; have := h.cnt; show _ + 0 ≤ _; omega⟩
      rcases List.mem_append.1 hc with hc | hc
      · exact h.more.all c hc
      · obtain rfl := List.mem_singleton.1 hc
        exact ⟨check_can hk, Nat.zero_le _, Nat.zero_le _⟩
  · rw [if_neg hk]; exact h.more
theorem OkS.add {k : Nat} {S : List TCall} (h : OkS k S) (i : Int) (a : Atm) : OkS (k + 1) (addU S i a).2.2 := by
  unfold addU
  by_cases hi : InS S i
  · rw [dif_pos hi]
    split
    · split
      · exact h.more
      · show OkS (k + 1) (S.set i.toNat (addC S[i.toNat] a))
        have hm := h.all _ (List.getElem_mem hi.2)
        refine ⟨by rw [List.length_set]; exact h.more.len, fun c hc => ?_, ?_⟩
        · rcases List.mem_or_eq_of_mem_set hc with hc | rfl
          · exact h.more.all c hc
          · refine ⟨hm.1, ?_, by have := hm.2.2; show (S[i.toNat]).2.2.length ≤ _; omega⟩
            show ((S[i.toNat]).2.1 ++ [a]).length ≤ _
            rw [List.length_append, List.length_singleton]
            have := hm.2.1
            omega
        · have := h.cnt
          unfold cntS at this ⊢
          rw [List.map_set, sum_set1 _ i.toNat (by rw [List.length_map]; exact hi.2) _ (by
            rw [List.getElem_map]
            show ((S[i.toNat]).2.1 ++ [a]).length = _
            rw [List.length_append, List.length_singleton])]
          omega
    · exact h.more
  · rw [dif_neg hi]; exact h.more
theorem OkS.wait {k : Nat} {S : List TCall} (h : OkS k S) (i x : Int) : OkS (k + 1) (waitU S i x).2 := by
  unfold waitU
  by_cases hi : InS S i
  · rw [dif_pos hi]
    show OkS (k + 1) (S.set i.toNat (waitC S[i.toNat] x))
    have hm := h.all _ (List.getElem_mem hi.2)
    have h1 : (waitC S[i.toNat] x).1 = (S[i.toNat]).1 := by unfold waitC; split <;> rfl
    have h2 : (waitC S[i.toNat] x).2.1 = (S[i.toNat]).2.1 := by unfold waitC; split <;> rfl
    have h3 : (waitC S[i.toNat] x).2.2.length ≤ k + 1 := by
      unfold waitC
      split
      · have := hm.2.2; omega
      · show ((S[i.toNat]).2.2 ++ [x]).length ≤ _
        rw [List.length_append, List.length_singleton]
        have := hm.2.2
        omega
    refine ⟨by rw [List.length_set]; exact h.more.len, fun c hc => ?_, ?_⟩
    · rcases List.mem_or_eq_of_mem_set hc with hc | rfl
      · exact h.more.all c hc
      · exact ⟨by rw [h1]; exact hm.1, by rw [h2]; have := hm.2.1; omega, h3⟩
    · rw [cntS_set hi.2 (by rw [h2])]
      have := h.cnt
      omega
  · rw [dif_neg hi]; exact h.more

section
variable {B g : Nat} {Z : Nat → Prop} {S : List TCall} {k : Nat}
theorem topen_u (a_s a_p : List UInt8) (a_n : Int) (a_v0 a_v1 a_v2 a_v3 : Bool) (a_l0 a_l1 a_l2 a_l3 : List UInt8) (w : World) (h : Tab w B g Z S) (hf : FitsN ((a_s, a_p, a_n, (a_v0, a_l0), (a_v1, a_l1), (a_v2, a_l2), (a_v3, a_l3)) : Atm)) (hE : Env w) (ho : OkS k S) (hk : k ≤ 60) {q : Int × Bool × Int × List TCall} (hq : openU S ((a_s, a_p, a_n, (a_v0, a_l0), (a_v1, a_l1), (a_v2, a_l2), (a_v3, a_l3)) : Atm) = q) :
    Calls Tryz.prog 9 #[.pointer (some ⟨g, 0, none⟩), .agg #[.string ⟨a_s.toArray⟩, .string ⟨a_p.toArray⟩, .int .i64 a_n, .bool a_v0, .string ⟨a_l0.toArray⟩, .bool a_v1, .string ⟨a_l1.toArray⟩, .bool a_v2, .string ⟨a_l2.toArray⟩, .bool a_v3, .string ⟨a_l3.toArray⟩]] w fun e w' => e = .returned (.tuple #[.int .i64 q.1, .bool q.2.1, .int .i64 q.2.2.1]) ∧ TOp Z B g w w' q.2.2.2 := by
  subst hq
  unfold openU
  have := ho.len
  by_cases hc : checkA ((a_s, a_p, a_n, (a_v0, a_l0), (a_v1, a_l1), (a_v2, a_l2), (a_v3, a_l3)) : Atm) = 0
  · rw [if_pos hc]
    exact topen_t a_s a_p a_n a_v0 a_v1 a_v2 a_v3 a_l0 a_l1 a_l2 a_l3 w h hf hE hc (by omega) rfl
  · rw [if_neg hc]
    refine (topen_bad a_s a_p a_n a_v0 a_v1 a_v2 a_v3 a_l0 a_l1 a_l2 a_l3 w hf hE hc).mono ?_
    rintro e w' ⟨rfl, hb⟩
    exact ⟨rfl, TOp.same h hb h.le⟩
theorem tadd_u (i : Int) (a_s a_p : List UInt8) (a_n : Int) (a_v0 a_v1 a_v2 a_v3 : Bool) (a_l0 a_l1 a_l2 a_l3 : List UInt8) (w : World) (h : Tab w B g Z S) (hf : FitsN ((a_s, a_p, a_n, (a_v0, a_l0), (a_v1, a_l1), (a_v2, a_l2), (a_v3, a_l3)) : Atm)) (hE : Env w) (ho : OkS k S) (hk : k ≤ 60) {q : Bool × Int × List TCall} (hq : addU S i ((a_s, a_p, a_n, (a_v0, a_l0), (a_v1, a_l1), (a_v2, a_l2), (a_v3, a_l3)) : Atm) = q) :
    Calls Tryz.prog 11 #[.pointer (some ⟨g, 0, none⟩), .int .i64 i, .agg #[.string ⟨a_s.toArray⟩, .string ⟨a_p.toArray⟩, .int .i64 a_n, .bool a_v0, .string ⟨a_l0.toArray⟩, .bool a_v1, .string ⟨a_l1.toArray⟩, .bool a_v2, .string ⟨a_l2.toArray⟩, .bool a_v3, .string ⟨a_l3.toArray⟩]] w fun e w' => e = .returned (.tuple #[.bool q.1, .int .i64 q.2.1]) ∧ TOp Z B g w w' q.2.2 := by
  subst hq
  unfold addU
  by_cases hi : InS S i
  · rw [dif_pos hi]
    have hm := ho.all _ (List.getElem_mem hi.2)
    have hn := ho.cnt
    obtain ⟨j, rfl, hj, _⟩ := inS_nat hi
    have hm : checkA (S[j]).1 = 0 ∧ (S[j]).2.1.length ≤ k ∧ (S[j]).2.2.length ≤ k := hm
    show Calls _ _ _ _ fun e w' => e = .returned (.tuple #[.bool (if addOK (S[j]).1 ((a_s, a_p, a_n, (a_v0, a_l0), (a_v1, a_l1), (a_v2, a_l2), (a_v3, a_l3)) : Atm) = true then (if ((a_s, a_p, a_n, (a_v0, a_l0), (a_v1, a_l1), (a_v2, a_l2), (a_v3, a_l3)) : Atm) ∈ (S[j]).2.1 then (false, (0 : Int), S) else (true, 0, S.set j (addC S[j] ((a_s, a_p, a_n, (a_v0, a_l0), (a_v1, a_l1), (a_v2, a_l2), (a_v3, a_l3)) : Atm)))) else (false, 2, S)).1, .int .i64 (if addOK (S[j]).1 ((a_s, a_p, a_n, (a_v0, a_l0), (a_v1, a_l1), (a_v2, a_l2), (a_v3, a_l3)) : Atm) = true then (if ((a_s, a_p, a_n, (a_v0, a_l0), (a_v1, a_l1), (a_v2, a_l2), (a_v3, a_l3)) : Atm) ∈ (S[j]).2.1 then (false, (0 : Int), S) else (true, 0, S.set j (addC S[j] ((a_s, a_p, a_n, (a_v0, a_l0), (a_v1, a_l1), (a_v2, a_l2), (a_v3, a_l3)) : Atm)))) else (false, 2, S)).2.1]) ∧ TOp Z B g w w' (if addOK (S[j]).1 ((a_s, a_p, a_n, (a_v0, a_l0), (a_v1, a_l1), (a_v2, a_l2), (a_v3, a_l3)) : Atm) = true then (if ((a_s, a_p, a_n, (a_v0, a_l0), (a_v1, a_l1), (a_v2, a_l2), (a_v3, a_l3)) : Atm) ∈ (S[j]).2.1 then (false, (0 : Int), S) else (true, 0, S.set j (addC S[j] ((a_s, a_p, a_n, (a_v0, a_l0), (a_v1, a_l1), (a_v2, a_l2), (a_v3, a_l3)) : Atm)))) else (false, 2, S)).2.2
    cases hx : addOK (S[j]).1 ((a_s, a_p, a_n, (a_v0, a_l0), (a_v1, a_l1), (a_v2, a_l2), (a_v3, a_l3)) : Atm) with
    | false =>
      rw [if_neg (by decide)]
      refine (tadd_t1 j a_s a_p a_n a_v0 a_v1 a_v2 a_v3 a_l0 a_l1 a_l2 a_l3 w h hj hf hE hm.1 hx).mono ?_
      rintro e w' ⟨rfl, hb⟩
      exact ⟨rfl, TOp.same h hb h.le⟩
    | true =>
      rw [if_pos rfl]
      by_cases hin : ((a_s, a_p, a_n, (a_v0, a_l0), (a_v1, a_l1), (a_v2, a_l2), (a_v3, a_l3)) : Atm) ∈ (S[j]).2.1
      · rw [if_pos hin]
        refine (tadd_t2 j a_s a_p a_n a_v0 a_v1 a_v2 a_v3 a_l0 a_l1 a_l2 a_l3 w h hj hf hE hm.1 hx hin).mono ?_
        rintro e w' ⟨rfl, hb⟩
        exact ⟨rfl, TOp.same h hb h.le⟩
      · rw [if_neg hin]
        exact tadd_t3 j a_s a_p a_n a_v0 a_v1 a_v2 a_v3 a_l0 a_l1 a_l2 a_l3 w h hj hf hE hm.1 hx hin (by omega) (by omega)
  · rw [dif_neg hi]
    refine (tadd_tn i a_s a_p a_n a_v0 a_v1 a_v2 a_v3 a_l0 a_l1 a_l2 a_l3 w h (inS_not hi)).mono ?_
    rintro e w' ⟨rfl, hb⟩
    exact ⟨rfl, TOp.same h hb h.le⟩
theorem twait_u (i x : Int) (w : World) (h : Tab w B g Z S) (ho : OkS k S) (hk : k ≤ 60) {q : Int × List TCall} (hq : waitU S i x = q) :
    Calls Tryz.prog 13 #[.pointer (some ⟨g, 0, none⟩), .int .i64 i, .int .i64 x] w fun e w' => e = .returned (.int .i64 q.1) ∧ TOp Z B g w w' q.2 := by
  subst hq
  unfold waitU
  by_cases hi : InS S i
  · rw [dif_pos hi]
    have hm := ho.all _ (List.getElem_mem hi.2)
    obtain ⟨j, rfl, hj, _⟩ := inS_nat hi
    have hm : checkA (S[j]).1 = 0 ∧ (S[j]).2.1.length ≤ k ∧ (S[j]).2.2.length ≤ k := hm
    exact tW_t j x w h hj (by omega)
  · rw [dif_neg hi]
    refine (tW_tn i x w h (inS_not hi)).mono ?_
    rintro e w' ⟨rfl, hb⟩
    exact ⟨rfl, TOp.same h hb h.le⟩
theorem tcall_u (i : Int) (w : World) (h : Tab w B g Z S) {q : Atm × Bool} (hq : callU S i = q) :
    Calls Tryz.prog 17 #[.pointer (some ⟨g, 0, none⟩), .int .i64 i] w fun e w' => e = .returned (.tuple #[.agg (atmC q.1), .bool q.2]) ∧ Since w w' := by
  subst hq
  unfold callU
  by_cases hi : InS S i
  · rw [dif_pos hi]
    obtain ⟨j, rfl, hj, _⟩ := inS_nat hi
    exact tcall_t j w h hj
  · rw [dif_neg hi]
    exact tcall_tn i w h (inS_not hi)
theorem twho_u (i : Int) (w : World) (h : Tab w B g Z S) {q : List Int} (hq : whoU S i = q) :
    Calls Tryz.prog 23 #[.pointer (some ⟨g, 0, none⟩), .int .i64 i] w fun e w' => ∃ v', e = .returned v' ∧ IRow w' v' q ∧ Since w w' := by
  subst hq
  unfold whoU
  by_cases hi : InS S i
  · rw [dif_pos hi]
    obtain ⟨j, rfl, hj, _⟩ := inS_nat hi
    refine (twait_t j w h hj).mono ?_
    rintro e w' ⟨v', rfl, hr, hb⟩
    exact ⟨v', rfl, own_irow1 hr, hb⟩
  · rw [dif_neg hi]
    refine (twait_tn i w h (inS_not hi)).mono ?_
    rintro e w' ⟨rfl, hb⟩
    exact ⟨_, rfl, KRow.nil _ _, hb⟩
theorem tans_u (i : Int) (w : World) (h : Tab w B g Z S) {q : List Atm} (hq : ansU S i = q) :
    Calls Tryz.prog 26 #[.pointer (some ⟨g, 0, none⟩), .int .i64 i] w fun e w' => ∃ v', e = .returned v' ∧ ARow w' v' q ∧ Since w w' := by
  subst hq
  unfold ansU
  by_cases hi : InS S i
  · rw [dif_pos hi]
    obtain ⟨j, rfl, hj, _⟩ := inS_nat hi
    refine (tans_t j w h hj).mono ?_
    rintro e w' ⟨v', rfl, hr, hb⟩
    exact ⟨v', rfl, own_arow1 hr, hb⟩
  · rw [dif_neg hi]
    refine (tans_tn i w h (inS_not hi)).mono ?_
    rintro e w' ⟨rfl, hb⟩
    exact ⟨_, rfl, KRow.nil _ _, hb⟩
end
section
variable {D r : Nat} {Z : Nat → Prop} {S : List TCall} {k : Nat}
theorem Rtb.of {w w' : World} {av gv wv : Value} {GL : List (List Atm × Value)} {WL : List (List Int × Value)} {S' : List TCall} (h : Rtb w D r Z S) (h2 : ∀ b, RefB r av gv wv GL WL b → Z b) (hx : ∃ av' gv' wv' GL' WL', RefAt w' D r av' gv' wv' S' GL' WL' ∧ (∀ b, RefB r av' gv' wv' GL' WL' b → RefB r av gv wv GL WL b ∨ w.heap.size ≤ b) ∧ Keep (RefB r av gv wv GL WL) w w') : ROp Z D r w w' S' := by
  obtain ⟨av', gv', wv', GL', WL', k1, k2, k3⟩ := hx
  exact ROp.of h2 h.low h.le k1 k3 k2
theorem ropen_u (a_s a_p : List UInt8) (a_n : Int) (a_v0 a_v1 a_v2 a_v3 : Bool) (a_l0 a_l1 a_l2 a_l3 : List UInt8) (w : World) (h : Rtb w D r Z S) (hf : FitsN ((a_s, a_p, a_n, (a_v0, a_l0), (a_v1, a_l1), (a_v2, a_l2), (a_v3, a_l3)) : Atm)) (ho : OkS k S) (hk : k ≤ 60) {q : Int × Bool × Int × List TCall} (hq : openU S ((a_s, a_p, a_n, (a_v0, a_l0), (a_v1, a_l1), (a_v2, a_l2), (a_v3, a_l3)) : Atm) = q) :
    Calls Tryz.prog 10 #[.pointer (some ⟨r, 0, none⟩), .agg #[.string ⟨a_s.toArray⟩, .string ⟨a_p.toArray⟩, .int .i64 a_n, .bool a_v0, .string ⟨a_l0.toArray⟩, .bool a_v1, .string ⟨a_l1.toArray⟩, .bool a_v2, .string ⟨a_l2.toArray⟩, .bool a_v3, .string ⟨a_l3.toArray⟩]] w fun e w' => e = .returned (.tuple #[.int .i64 q.1, .bool q.2.1, .int .i64 q.2.2.1]) ∧ ROp Z D r w w' q.2.2.2 := by
  subst hq
  unfold openU
  have hn := ho.len
  by_cases hc : checkA ((a_s, a_p, a_n, (a_v0, a_l0), (a_v1, a_l1), (a_v2, a_l2), (a_v3, a_l3)) : Atm) = 0
  · rw [if_pos hc]
    unfold openS
    have h' := h
    obtain ⟨⟨av, gv, wv, GL, WL, h1, h2⟩, h3⟩ := h
    cases hp : posF (S.map fun c => c.1) (canA ((a_s, a_p, a_n, (a_v0, a_l0), (a_v1, a_l1), (a_v2, a_l2), (a_v3, a_l3)) : Atm)) 0 with
    | some j =>
      refine (ropen_found a_s a_p a_n a_v0 a_v1 a_v2 a_v3 a_l0 a_l1 a_l2 a_l3 w h1 (by omega) hf.1 hc hp).mono ?_
      rintro e w' ⟨rfl, hb⟩
      exact ⟨rfl, ROp.same h' hb⟩
    | none =>
      refine (ropen_new a_s a_p a_n a_v0 a_v1 a_v2 a_v3 a_l0 a_l1 a_l2 a_l3 w h1 (by omega) h'.le hf.1 hc hp).mono ?_
      rintro e w' ⟨rfl, hb⟩
      exact ⟨rfl, h'.of h2 hb⟩
  · rw [if_neg hc]
    refine (ropen_bad a_s a_p a_n a_v0 a_v1 a_v2 a_v3 a_l0 a_l1 a_l2 a_l3 w hf.1 hc).mono ?_
    rintro e w' ⟨rfl, hb⟩
    exact ⟨rfl, ROp.same h hb⟩
theorem radd_u (i : Int) (a_s a_p : List UInt8) (a_n : Int) (a_v0 a_v1 a_v2 a_v3 : Bool) (a_l0 a_l1 a_l2 a_l3 : List UInt8) (w : World) (h : Rtb w D r Z S) (hf : FitsN ((a_s, a_p, a_n, (a_v0, a_l0), (a_v1, a_l1), (a_v2, a_l2), (a_v3, a_l3)) : Atm)) (ho : OkS k S) (hk : k ≤ 60) {q : Bool × Int × List TCall} (hq : addU S i ((a_s, a_p, a_n, (a_v0, a_l0), (a_v1, a_l1), (a_v2, a_l2), (a_v3, a_l3)) : Atm) = q) :
    Calls Tryz.prog 12 #[.pointer (some ⟨r, 0, none⟩), .int .i64 i, .agg #[.string ⟨a_s.toArray⟩, .string ⟨a_p.toArray⟩, .int .i64 a_n, .bool a_v0, .string ⟨a_l0.toArray⟩, .bool a_v1, .string ⟨a_l1.toArray⟩, .bool a_v2, .string ⟨a_l2.toArray⟩, .bool a_v3, .string ⟨a_l3.toArray⟩]] w fun e w' => e = .returned (.tuple #[.bool q.1, .int .i64 q.2.1]) ∧ ROp Z D r w w' q.2.2 := by
  subst hq
  unfold addU
  have h' := h
  obtain ⟨⟨av, gv, wv, GL, WL, h1, h2⟩, h3⟩ := h
  by_cases hi : InS S i
  · rw [dif_pos hi]
    have hm := ho.all _ (List.getElem_mem hi.2)
    obtain ⟨j, rfl, hj, _⟩ := inS_nat hi
    have hm : checkA (S[j]).1 = 0 ∧ (S[j]).2.1.length ≤ k ∧ (S[j]).2.2.length ≤ k := hm
    show Calls _ _ _ _ fun e w' => e = .returned (.tuple #[.bool (if addOK (S[j]).1 ((a_s, a_p, a_n, (a_v0, a_l0), (a_v1, a_l1), (a_v2, a_l2), (a_v3, a_l3)) : Atm) = true then (if ((a_s, a_p, a_n, (a_v0, a_l0), (a_v1, a_l1), (a_v2, a_l2), (a_v3, a_l3)) : Atm) ∈ (S[j]).2.1 then (false, (0 : Int), S) else (true, 0, S.set j (addC S[j] ((a_s, a_p, a_n, (a_v0, a_l0), (a_v1, a_l1), (a_v2, a_l2), (a_v3, a_l3)) : Atm)))) else (false, 2, S)).1, .int .i64 (if addOK (S[j]).1 ((a_s, a_p, a_n, (a_v0, a_l0), (a_v1, a_l1), (a_v2, a_l2), (a_v3, a_l3)) : Atm) = true then (if ((a_s, a_p, a_n, (a_v0, a_l0), (a_v1, a_l1), (a_v2, a_l2), (a_v3, a_l3)) : Atm) ∈ (S[j]).2.1 then (false, (0 : Int), S) else (true, 0, S.set j (addC S[j] ((a_s, a_p, a_n, (a_v0, a_l0), (a_v1, a_l1), (a_v2, a_l2), (a_v3, a_l3)) : Atm)))) else (false, 2, S)).2.1]) ∧ ROp Z D r w w' (if addOK (S[j]).1 ((a_s, a_p, a_n, (a_v0, a_l0), (a_v1, a_l1), (a_v2, a_l2), (a_v3, a_l3)) : Atm) = true then (if ((a_s, a_p, a_n, (a_v0, a_l0), (a_v1, a_l1), (a_v2, a_l2), (a_v3, a_l3)) : Atm) ∈ (S[j]).2.1 then (false, (0 : Int), S) else (true, 0, S.set j (addC S[j] ((a_s, a_p, a_n, (a_v0, a_l0), (a_v1, a_l1), (a_v2, a_l2), (a_v3, a_l3)) : Atm)))) else (false, 2, S)).2.2
    cases hx : addOK (S[j]).1 ((a_s, a_p, a_n, (a_v0, a_l0), (a_v1, a_l1), (a_v2, a_l2), (a_v3, a_l3)) : Atm) with
    | false =>
      rw [if_neg (by decide)]
      have key : Calls Tryz.prog 12 #[.pointer (some ⟨r, 0, none⟩), .int .i64 (j : Int), .agg #[.string ⟨a_s.toArray⟩, .string ⟨a_p.toArray⟩, .int .i64 a_n, .bool a_v0, .string ⟨a_l0.toArray⟩, .bool a_v1, .string ⟨a_l1.toArray⟩, .bool a_v2, .string ⟨a_l2.toArray⟩, .bool a_v3, .string ⟨a_l3.toArray⟩]] w fun e w' => e = .returned (.tuple #[.bool false, .int .i64 2]) ∧ Since w w' := by
        by_cases hc : checkA ((a_s, a_p, a_n, (a_v0, a_l0), (a_v1, a_l1), (a_v2, a_l2), (a_v3, a_l3)) : Atm) = 0
        · cases hg : groundA ((a_s, a_p, a_n, (a_v0, a_l0), (a_v1, a_l1), (a_v2, a_l2), (a_v3, a_l3)) : Atm) with
          | false => exact radd_bad2 j a_s a_p a_n a_v0 a_v1 a_v2 a_v3 a_l0 a_l1 a_l2 a_l3 w h1 hj hf.1 hc hg
          | true =>
            refine radd_bad3 j a_s a_p a_n a_v0 a_v1 a_v2 a_v3 a_l0 a_l1 a_l2 a_l3 w h1 hj hf.1 hc hg hm.1 ?_
            unfold addOK at hx
            rw [hc] at hx
            exact hx
        · exact radd_bad1 j a_s a_p a_n a_v0 a_v1 a_v2 a_v3 a_l0 a_l1 a_l2 a_l3 w h1 hj hf.1 hc
      refine key.mono ?_
      rintro e w' ⟨rfl, hb⟩
      exact ⟨rfl, ROp.same h' hb⟩
    | true =>
      rw [if_pos rfl]
      obtain ⟨hc, hxm⟩ := addOK_parts hx
      have hg : groundA ((a_s, a_p, a_n, (a_v0, a_l0), (a_v1, a_l1), (a_v2, a_l2), (a_v3, a_l3)) : Atm) = true := by
        unfold extH at hxm
        split at hxm
        · next hh => exact hh.2
        · cases hxm
      refine (radd_yes j a_s a_p a_n a_v0 a_v1 a_v2 a_v3 a_l0 a_l1 a_l2 a_l3 w h1 hj hf.1 hc hg hm.1 hxm (by omega) h'.le).mono ?_
      rintro e w' (⟨hin, rfl, hb⟩ | ⟨hin, rfl, GL', k1, k2, k3⟩)
      · rw [if_pos hin]
        exact ⟨rfl, ROp.same h' hb⟩
      · rw [if_neg hin]
        exact ⟨rfl, h'.of h2 ⟨_, _, _, _, _, k1, k2, k3⟩⟩
  · rw [dif_neg hi]
    refine (radd_no i a_s a_p a_n a_v0 a_v1 a_v2 a_v3 a_l0 a_l1 a_l2 a_l3 w h1 (inS_not hi)).mono ?_
    rintro e w' ⟨rfl, hb⟩
    exact ⟨rfl, ROp.same h' hb⟩
theorem rwait_u (i x : Int) (w : World) (h : Rtb w D r Z S) (ho : OkS k S) (hk : k ≤ 60) {q : Int × List TCall} (hq : waitU S i x = q) :
    Calls Tryz.prog 14 #[.pointer (some ⟨r, 0, none⟩), .int .i64 i, .int .i64 x] w fun e w' => e = .returned (.int .i64 q.1) ∧ ROp Z D r w w' q.2 := by
  subst hq
  unfold waitU
  have h' := h
  obtain ⟨⟨av, gv, wv, GL, WL, h1, h2⟩, h3⟩ := h
  by_cases hi : InS S i
  · rw [dif_pos hi]
    have hm := ho.all _ (List.getElem_mem hi.2)
    obtain ⟨j, rfl, hj, _⟩ := inS_nat hi
    have hm : checkA (S[j]).1 = 0 ∧ (S[j]).2.1.length ≤ k ∧ (S[j]).2.2.length ≤ k := hm
    refine (rwait_yes j x w h1 hj (by omega) h'.le).mono ?_
    rintro e w' ⟨rfl, WL', k1, k2, k3⟩
    exact ⟨rfl, h'.of h2 ⟨_, _, _, _, _, k1, k2, k3⟩⟩
  · rw [dif_neg hi]
    refine (rwait_no i x w h1 (inS_not hi)).mono ?_
    rintro e w' ⟨rfl, hb⟩
    exact ⟨rfl, ROp.same h' hb⟩
theorem rfind_u (a_s a_p : List UInt8) (a_n : Int) (a_v0 a_v1 a_v2 a_v3 : Bool) (a_l0 a_l1 a_l2 a_l3 : List UInt8) (w : World) (h : Rtb w D r Z S) (ho : OkS k S) (hk : k ≤ 61) :
    Calls Tryz.prog 16 #[.pointer (some ⟨r, 0, none⟩), .agg #[.string ⟨a_s.toArray⟩, .string ⟨a_p.toArray⟩, .int .i64 a_n, .bool a_v0, .string ⟨a_l0.toArray⟩, .bool a_v1, .string ⟨a_l1.toArray⟩, .bool a_v2, .string ⟨a_l2.toArray⟩, .bool a_v3, .string ⟨a_l3.toArray⟩]] w fun e w' => e = .returned (.tuple #[.int .i64 (posV (posF (S.map fun c => c.1) (canA ((a_s, a_p, a_n, (a_v0, a_l0), (a_v1, a_l1), (a_v2, a_l2), (a_v3, a_l3)) : Atm)) 0)), .bool (posF (S.map fun c => c.1) (canA ((a_s, a_p, a_n, (a_v0, a_l0), (a_v1, a_l1), (a_v2, a_l2), (a_v3, a_l3)) : Atm)) 0).isSome]) ∧ Since w w' := by
  obtain ⟨⟨av, gv, wv, GL, WL, h1, h2⟩, h3⟩ := h
  exact rfind18 a_s a_p a_n a_v0 a_v1 a_v2 a_v3 a_l0 a_l1 a_l2 a_l3 w h1 (by have := ho.len; omega)
theorem rcall_u (i : Int) (w : World) (h : Rtb w D r Z S) {q : Atm × Bool} (hq : callU S i = q) :
    Calls Tryz.prog 18 #[.pointer (some ⟨r, 0, none⟩), .int .i64 i] w fun e w' => e = .returned (.tuple #[.agg (atmC q.1), .bool q.2]) ∧ Since w w' := by
  subst hq
  unfold callU
  obtain ⟨⟨av, gv, wv, GL, WL, h1, h2⟩, h3⟩ := h
  by_cases hi : InS S i
  · rw [dif_pos hi]
    obtain ⟨j, rfl, hj, _⟩ := inS_nat hi
    exact rcall_yes j w h1 hj
  · rw [dif_neg hi]
    exact rcall_no i w h1 (inS_not hi)
theorem rcount_u (w : World) (h : Rtb w D r Z S) (ho : OkS k S) (hk : k ≤ 61) :
    Calls Tryz.prog 21 #[.pointer (some ⟨r, 0, none⟩)] w fun e w' => e = .returned (.int .i64 (cntS S : Int)) ∧ Since w w' := by
  obtain ⟨⟨av, gv, wv, GL, WL, h1, h2⟩, h3⟩ := h
  exact rcount18 w h1 (by have := ho.len; omega) (by have := ho.cnt; omega)
theorem rlen_u {w : World} (h : Rtb w D r Z S) : ∃ a c, w.cell? ⟨r, 0, none⟩ = some (.slice a S.length c) := by
  obtain ⟨⟨av, gv, wv, GL, WL, h1, h2⟩, h3⟩ := h
  obtain ⟨a, c, rfl⟩ := own_slice h1.atoms
  exact ⟨a, c, h1.cel.cell 0⟩
theorem rwho_u (i : Int) (w : World) (h : Rtb w D r Z S) (ho : OkS k S) (hk : k ≤ 61) {q : List Int} (hq : whoU S i = q) :
    Calls Tryz.prog 24 #[.pointer (some ⟨r, 0, none⟩), .int .i64 i] w fun e w' => ∃ v', e = .returned v' ∧ IRow w' v' q ∧ Since w w' := by
  subst hq
  unfold whoU
  obtain ⟨⟨av, gv, wv, GL, WL, h1, h2⟩, h3⟩ := h
  by_cases hi : InS S i
  · rw [dif_pos hi]
    have hm := ho.all _ (List.getElem_mem hi.2)
    obtain ⟨j, rfl, hj, _⟩ := inS_nat hi
    have hm : checkA (S[j]).1 = 0 ∧ (S[j]).2.1.length ≤ k ∧ (S[j]).2.2.length ≤ k := hm
    refine (rwaiters_yes j w h1 hj (by omega)).mono ?_
    rintro e w' ⟨v', rfl, hr, hb⟩
    exact ⟨v', rfl, own_irow1 hr, hb⟩
  · rw [dif_neg hi]
    refine (rwaiters_no i w h1 (inS_not hi)).mono ?_
    rintro e w' ⟨rfl, hb⟩
    exact ⟨_, rfl, KRow.nil _ _, hb⟩
theorem rans_u (i : Int) (w : World) (h : Rtb w D r Z S) (ho : OkS k S) (hk : k ≤ 61) {q : List Atm} (hq : ansU S i = q) :
    Calls Tryz.prog 27 #[.pointer (some ⟨r, 0, none⟩), .int .i64 i] w fun e w' => ∃ v', e = .returned v' ∧ ARow w' v' q ∧ Since w w' := by
  subst hq
  unfold ansU
  obtain ⟨⟨av, gv, wv, GL, WL, h1, h2⟩, h3⟩ := h
  by_cases hi : InS S i
  · rw [dif_pos hi]
    have hm := ho.all _ (List.getElem_mem hi.2)
    obtain ⟨j, rfl, hj, _⟩ := inS_nat hi
    have hm : checkA (S[j]).1 = 0 ∧ (S[j]).2.1.length ≤ k ∧ (S[j]).2.2.length ≤ k := hm
    refine (ranswers_yes j w h1 hj (by omega)).mono ?_
    rintro e w' ⟨v', rfl, hr, hb⟩
    exact ⟨v', rfl, own_arow1 hr, hb⟩
  · rw [dif_neg hi]
    refine (ranswers_no i w h1 (inS_not hi)).mono ?_
    rintro e w' ⟨rfl, hb⟩
    exact ⟨_, rfl, KRow.nil _ _, hb⟩
theorem who_len {S : List TCall} {k : Nat} (h : OkS k S) (i : Int) : (whoU S i).length ≤ k := by
  unfold whoU
  split
  · next hi => exact (h.all _ (List.getElem_mem hi.2)).2.2
  · exact Nat.zero_le _
theorem ans_len {S : List TCall} {k : Nat} (h : OkS k S) (i : Int) : (ansU S i).length ≤ k := by
  unfold ansU
  split
  · next hi => exact (h.all _ (List.getElem_mem hi.2)).2.1
  · exact Nat.zero_le _
end
end Go.Proofs.YtbgdljcgbhhfdaaGreatDoor
