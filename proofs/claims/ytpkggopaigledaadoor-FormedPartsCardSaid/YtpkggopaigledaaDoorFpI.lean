/- Maps of texts to 1. -/
import Derived.Test.YtpkggopaigledaaDoorFoE
import Derived.Maps.OwnOps
namespace Go.Proofs.YtpkggopaigledaaDoor
open Go.RowKit Go.Maps Go.WideMaps

/-- Block b is a map that gives 1 at the texts of L. -/
def OneAt (W : World) (b n : Nat) (L : List Txt) : Prop := W.ownsMap Tryd.prog 9 (plainElem (H := Unit) Tryd.prog 3) b n (setOf (.lit (.int .i64 1)) (L.map Lit.string))
theorem OneAt.next {W W' : World} {b n : Nat} {L : List Txt} (h : OneAt W b n L) (hs : Since W W') : OneAt W' b n L := by
  have hlt := World.ownsMap.lt h
  obtain ⟨es, clock, hb, r⟩ := h
  exact ⟨es, clock, (hs.block b hlt).trans hb, r⟩
theorem one_made (w : World) : OneAt (w.alloc (.map #[] 0)) w.heap.size 0 [] := World.ownsMap_made _ _ _ _
theorem keyS (y : Txt) : WideAt.IsKeyLit (Lit.string y) := trivial
theorem at_fold (x : Txt) (z : DataW Unit) : ∀ (l : List Txt) (m : DataW Unit), IsMap m → (x ∈ l ∨ m.atKey (.string x) z = .lit (.int .i64 1)) → ((l.map Lit.string).foldl (fun m k => m.put k (.lit (.int .i64 1))) m).atKey (.string x) z = .lit (.int .i64 1)
  | [], m, _, h => by
    rcases h with h | h
    · cases h
    · exact h
  | y :: r, m, hm, h => by
    rw [List.map_cons, List.foldl_cons]
    refine at_fold x z r _ (hm.put _ _) ?_
    by_cases e : x = y
    · subst e
      exact .inr (atKey_put_same hm (keyS x) _ _)
    · rcases h with h | h
      · rcases List.mem_cons.1 h with h | h
        · exact absurd h e
        · exact .inl h
      · refine .inr ?_
        rw [atKey_put_other (fun e' => e (by injection e'))]
        exact h
theorem at_one (L : List Txt) (x : Txt) (h : x ∈ L) (z : DataW Unit) : (setOf (.lit (.int .i64 1) : DataW Unit) (L.map Lit.string)).atKey (.string x) z = .lit (.int .i64 1) := at_fold x z L _ isMap_empty (.inl h)
theorem zeroI (w : World) : (zeroValue 3).run Tryd.prog w = .ok (.int .i64 0) w := by kernel_rfl
theorem lookup_one (w : World) {ops : Array Oper} {rest : List Oper} {o : Oper} {a : Act} {Q : Exit → Act → World → Prop}
    (hg : o.guard = none) (m x : Operand) (hop : o.op = Op.lookup 50 m x false) (b n : Nat) (L : List Txt) (hm : a.eval m = .map (some b)) (hown : OneAt w b n L) (s : Txt) (hs : s.length ≤ maxLen)
    (hx : a.eval x = .string ⟨s.toArray⟩) (ht : s ∈ L) (hK : wpList Tryd.prog ops Q rest (a.put o.dst (.int .i64 1)) w) : wpList Tryd.prog ops Q (o :: rest) a w := by
  refine wpList_lookup_own_int w hg m x _ hop 9 3 .i64 klaw Tryd.underlying50 Tryd.underlying3 (zeroI w) b n _ hm hown _ (.string s) hx (keyOf_string_mk Tryd.underlying9 (s := ⟨s.toArray⟩) hs) ?_
  intro c hat _
  rw [at_one L s ht] at hat
  injection hat with hat
  injection hat with _ hat
  subst hat
  exact hK
theorem update_one (w : World) {ops : Array Oper} {rest : List Oper} {o : Oper} {a : Act} {Q : Exit → Act → World → Prop}
    (hg : o.guard = none) (m x v : Operand) (hop : o.op = Op.mapUpdate 50 m x v) (b n : Nat) (L : List Txt) (hm : a.eval m = .map (some b)) (hown : OneAt w b n L) (hn : n < maxLen) (s : Txt) (hs : s.length ≤ maxLen)
    (hx : a.eval x = .string ⟨s.toArray⟩) (hv : a.eval v = .int .i64 1) (hK : ∀ w', OneAt w' b (n + 1) (L ++ [s]) → w.grownBy w' (some b) → wpList Tryd.prog ops Q rest (a.put o.dst undef) w') : wpList Tryd.prog ops Q (o :: rest) a w := by
  refine wpList_mapUpdate_own w hg m x v _ hop 9 3 klaw Tryd.underlying50 (plainElem (H := Unit) Tryd.prog 3) b n _ hm hown hn _ _ (.string s) hx hv (keyOf_string_mk Tryd.underlying9 (s := ⟨s.toArray⟩) hs) (.lit (.int .i64 1)) [] (plainElem_int Tryd.underlying3 (by decide)) ?_
  intro w' h1 h2
  refine hK w' ?_ h2
  unfold OneAt
  rw [List.map_append]
  exact setOf_snoc _ _ _ ▸ h1
end Go.Proofs.YtpkggopaigledaaDoor
