/- formed: sets of texts; principals. -/
import Derived.Test.YtpkggopaigledaaDoorFoD
import Derived.Maps.OwnSet
import Derived.StringKeys
namespace Go.Proofs.YtpkggopaigledaaDoor
open Go.RowKit Go.Maps Go.WideMaps

theorem klaw : Keyed Tryd.prog 9 := string_keyed Tryd.underlying9
theorem zeroU (w : World) : (zeroValue 84).run Tryd.prog w = .ok (.agg #[]) w := by kernel_rfl
/-- Block b is a set of texts. -/
def SetAt (W : World) (b n : Nat) (L : List Txt) : Prop := W.ownsMap Tryd.prog 9 (unitElem (H := Unit)) b n (setOf (.agg []) (L.map Lit.string))
theorem SetAt.next {W W' : World} {b n : Nat} {L : List Txt} (h : SetAt W b n L) (hs : Since W W') : SetAt W' b n L := by
  have hlt := World.ownsMap.lt h
  obtain ⟨es, clock, hb, r⟩ := h
  exact ⟨es, clock, (hs.block b hlt).trans hb, r⟩
theorem has_set (L : List Txt) (x : Txt) : Maps.has (setOf (.agg [] : DataW Unit) (L.map Lit.string)) (.string x) = L.contains x := by
  rw [has_setOf _ _ _ (fun y hy => by obtain ⟨_, _, rfl⟩ := List.mem_map.1 hy; trivial), List.any_map]
  induction L with
  | nil => rfl
  | cons a r ih =>
    rw [List.any_cons, List.contains_cons, ih]
    congr 1
    show (a == x) = (x == a)
    rw [Bool.eq_iff_iff, beq_iff_eq, beq_iff_eq]
    exact eq_comm
theorem set_made (w : World) : SetAt (w.alloc (.map #[] 0)) w.heap.size 0 [] := World.ownsMap_made _ _ _ _
theorem lookup_set (w : World) {ops : Array Oper} {rest : List Oper} {o : Oper} {a : Act} {Q : Exit → Act → World → Prop}
    (hg : o.guard = none) (m x : Operand) (hop : o.op = Op.lookup 83 m x true) (b n : Nat) (L : List Txt) (hm : a.eval m = .map (some b)) (hown : SetAt w b n L) (s : Txt) (hs : s.length ≤ maxLen)
    (hx : a.eval x = .string ⟨s.toArray⟩) (t : Bool) (ht : L.contains s = t) (hK : wpList Tryd.prog ops Q rest (a.put o.dst (.tuple #[.agg #[], .bool t])) w) : wpList Tryd.prog ops Q (o :: rest) a w := by
  refine wpList_lookup_own_unit w hg m x _ hop 9 84 klaw Tryd.underlying83 (zeroU w) b n _ hm hown _ (.string s) hx (keyOf_string_mk Tryd.underlying9 (s := ⟨s.toArray⟩) hs) ?_
  rw [has_set, ht]
  exact hK
theorem update_set (w : World) {ops : Array Oper} {rest : List Oper} {o : Oper} {a : Act} {Q : Exit → Act → World → Prop}
    (hg : o.guard = none) (m x v : Operand) (hop : o.op = Op.mapUpdate 83 m x v) (b n : Nat) (L : List Txt) (hm : a.eval m = .map (some b)) (hown : SetAt w b n L) (hn : n < maxLen) (s : Txt) (hs : s.length ≤ maxLen)
    (hx : a.eval x = .string ⟨s.toArray⟩) (hv : a.eval v = .agg #[]) (hK : ∀ w', SetAt w' b (n + 1) (L ++ [s]) → w.grownBy w' (some b) → wpList Tryd.prog ops Q rest (a.put o.dst undef) w') : wpList Tryd.prog ops Q (o :: rest) a w := by
  refine wpList_mapUpdate_own w hg m x v _ hop 9 84 klaw Tryd.underlying83 (unitElem (H := Unit)) b n _ hm hown hn _ _ (.string s) hx hv (keyOf_string_mk Tryd.underlying9 (s := ⟨s.toArray⟩) hs) (.agg []) [] unitElem_mk ?_
  intro w' h1 h2
  refine hK w' ?_ h2
  unfold SetAt
  rw [List.map_append]
  exact setOf_snoc _ _ _ ▸ h1
theorem since_update {w0 w w' : World} {b : Nat} (h : Since w0 w) (hg : w.grownBy w' (some b)) (hb : w0.heap.size ≤ b) : Since w0 w' :=
  Below.grown h hg h.size (fun j hj => by cases hj; exact hb)

def prinsF : List Txt → List Txt → Int
  | _, [] => 0
  | met, x :: r => if firstE [ifE (!principalB x) 3, ifE (met.contains x) 5] = 0 then prinsF (met ++ [x]) r else firstE [ifE (!principalB x) 3, ifE (met.contains x) 5]
def prinsE (L : List Txt) : Int := if L.length < 1 ∨ 16 < L.length then 4 else prinsF [] L
theorem take_more {α : Type} (L : List α) (k : Nat) (h : k < L.length) : L.take k ++ [L[k]] = L.take (k + 1) := by
  rw [List.take_succ_eq_append_getElem h]
set_option maxHeartbeats 4000000 in
set_option maxRecDepth 100000 in
theorem fprins_any (ap ad ac ar ag : Option Addr) (np cp nd cd nc cc nr cr ng cg : Nat) (qu bu : Int) (L : List Txt) (w : World) (hT : TRow w (.slice ap np cp) L) (hl : ∀ x ∈ L, x.length ≤ maxLen) (lm : L.length ≤ 1000000) (hE : Env w) :
    Calls Tryd.prog 34 #[.agg #[.slice ap np cp, .slice ad nd cd, .slice ac nc cc, .int .i64 qu, .int .i64 bu, .slice ar nr cr, .slice ag ng cg]] w fun e w' => e = .returned (.int .i64 (prinsE L)) ∧ Since w w' := by
  have hmm := @run_makeMap Tryd.prog
  have hS0 : Since w (w.alloc (.cells #[.slice ap np cp, .slice ad nd cd, .slice ac nc cc, .int .i64 qu, .int .i64 bu, .slice ar nr cr, .slice ag ng cg] 28)) := (Since.refl _).alloc _
  obtain ⟨p_c0, p_c1, p_c2, p_c3, p_c4, p_c5, p_c6⟩ := pbox_new w ap ad ac ar ag np cp nd cd nc cc nr cr ng cg qu bu 28
  have HT := Lib.hid (tnext hT hS0)
  have HE := Lib.hid (hE.next hS0)
  have hn := Lib.hid hT.form
  have hnm : np ≤ 1000000 := by have := hT.form; omega
  clear hT hE
  by_cases h1 : np < 1
  · go_enter Tryd.func34, Tryd.ntmps34
    have h1' : (np : Int) < 1 := by omega
    go_wp2_with fail
    go_ret
    refine ⟨ret_int ?_, hS0⟩
    rw [prinsE, if_pos (by have := hn.out; omega)]
  by_cases h2 : 16 < np
  · go_enter Tryd.func34, Tryd.ntmps34
    have h1' : ¬ (np : Int) < 1 := by omega
    have h2' : (16 : Int) < (np : Int) := by omega
    go_wp2_with fail
    go_ret
    refine ⟨ret_int ?_, hS0⟩
    rw [prinsE, if_pos (by have := hn.out; omega)]
  have h1' : ¬ (np : Int) < 1 := by omega
  have h2' : ¬ (16 : Int) < (np : Int) := by omega
  go_enter Tryd.func34, Tryd.ntmps34
  go_wp2_with fail
  generalize hw1 : w.alloc (.cells #[.slice ap np cp, .slice ad nd cd, .slice ac nc cc, .int .i64 qu, .int .i64 bu, .slice ar nr cr, .slice ag ng cg] 28) = w1 at *
  have hz1 : w.heap.size + 1 = w1.heap.size := by rw [← hw1]; simp
  clear hw1 h1' h2'
  rw [hz1]
  go_loopw [23] (fun m wr => ∃ k : Nat, k ≤ np ∧ m = .int .i64 (k : Int) ∧ prinsF [] L = prinsF (L.take k) (L.drop k) ∧ SetAt wr w1.heap.size k (L.take k) ∧ Since w1 wr) (fun m _ => np - (intOf m).toNat)
  case atStart => exact ⟨0, by omega, rfl, rfl, set_made w1, (Since.refl _).alloc _⟩
  case round =>
    obtain ⟨k, hk, rfl, hF, hown, hSr⟩ := hrel
    have HF := Lib.hid hF
    clear hF
    by_cases hlt : k < np
    · have hkl : k < L.length := by have := hn.out; omega
      have hlt2 : (k : Int) < (np : Int) := by omega
      have hlt0 : (0 : Int) ≤ (k : Int) := by omega
      obtain ⟨b, o, rfl, hc, hat⟩ := (tnext HT.out hSr).get (by omega)
      have d1 := hat k hkl
      obtain ⟨s, hs⟩ : ∃ s, Hid (s = L[k]) := ⟨L[k], rfl⟩
      have hsl : s.length ≤ maxLen := by rw [hs.out]; exact hl _ (List.getElem_mem hkl)
      unfold TxtAt at d1
      rw [Nat.mul_one, ← hs.out] at d1
      simp only [strV] at d1
      clear hat
      obtain ⟨t, ht⟩ : ∃ t, Hid (t = (L.take k).contains s) := ⟨_, rfl⟩
      obtain ⟨B, hB⟩ : ∃ B, Hid (B = principalB s) := ⟨_, rfl⟩
      have HPR : Hid (∀ W, Since w1 W → Calls Tryd.prog 60 #[.string ⟨s.toArray⟩] W fun e w' => e = .returned (.bool B) ∧ Since W w') := by
        intro W h; rw [hB.out]; exact principal_any s W hsl (HE.out.next h)
      go_wp2_with (first | (at_lookup; refine lookup_set _ rfl _ _ rfl w1.heap.size k (L.take k) rfl hown s hsl rfl t ht.out.symm ?_))
      refine (HPR.out _ (hSr.alloc _)).mono ?_
      rintro e w2 ⟨rfl, hb⟩
      have hS2 := (hSr.alloc (.cells #[] 84)).trans hb
      have ho2 := Lib.hid ((hown.next ((Since.refl _).alloc (.cells #[] 84))).next hb)
      clear hb hown d1 HPR
      go_wp2_with fail
      refine (not_rule _ 3 _).mono ?_
      rintro e w3 ⟨g1, rfl, n1, hb⟩
      replace hS2 := hS2.trans hb
      replace ho2 := Lib.hid (ho2.out.next hb)
      have r1 := Lib.hid n1
      clear hb n1
      go_wp2_with fail
      refine (not_rule _ 5 _).mono ?_
      rintro e w4 ⟨g2, rfl, n2, hb⟩
      replace hS2 := hS2.trans hb
      replace ho2 := Lib.hid (ho2.out.next hb)
      replace r1 := Lib.hid (r1.out.next hb)
      have r2 := Lib.hid n2
      clear hb n2
      go_wp2_with fail
      refine (first2 _ _ _ _ _ r1.out r2.out).mono ?_
      rintro e w5 ⟨rfl, hb⟩
      have hA := (Since.refl w4).alloc (.cells #[.func (.func 73) #[] #[.pointer (some ⟨g1, 0, none⟩), .pointer (some ⟨g1 + 1, 0, none⟩)], .func (.func 73) #[] #[.pointer (some ⟨g2, 0, none⟩), .pointer (some ⟨g2 + 1, 0, none⟩)]] 73)
      replace hS2 := (hS2.trans hA).trans hb
      have ho5 := (ho2.out.next hA).next hb
      obtain ⟨E, hE1⟩ : ∃ E, Hid (E = firstE [ifE (!B) 3, ifE t 5]) := ⟨_, rfl⟩
      rw [← hE1.out]
      have hE2 : Hid (prinsF [] L = if E = 0 then prinsF (L.take (k + 1)) (L.drop (k + 1)) else E) := by
        show _ = _
        rw [HF.out, List.drop_eq_getElem_cons hkl, prinsF, ← hs.out, ← hB.out, ← ht.out, ← hE1.out, hs.out, take_more L k hkl]
      clear hb hA ho2 r1 r2 HF
      by_cases he : E = 0
      · go_wp2_with (first | (at_mapUpdate; refine update_set _ rfl _ _ _ rfl w1.heap.size k (L.take k) rfl ho5 (by unfold maxLen; omega) s hsl rfl rfl ?_; intro w6 ho6 hg6))
        go_roundw
        case rel =>
          refine ⟨k + 1, by omega, by go_num, by rw [hE2.out, if_pos he], ?_, since_update hS2 hg6 (Nat.le_refl _)⟩
          rw [hs.out, take_more L k hkl] at ho6
          exact ho6
        case measure => simp [intOf]; omega
      · go_wp2_with fail
        go_ret
        refine ⟨ret_int ?_, hS0.trans hS2⟩
        have h3 := hn.out
        rw [prinsE, if_neg (by omega), hE2.out, if_neg he]
    · have hlt2 : ¬ (k : Int) < (np : Int) := by omega
      go_wp2_with fail
      go_ret
      refine ⟨ret_int ?_, hS0.trans hSr⟩
      have h3 := hn.out
      rw [prinsE, if_neg (by omega), HF.out, List.drop_eq_nil_of_le (by omega)]
      rfl
end Go.Proofs.YtpkggopaigledaaDoor
