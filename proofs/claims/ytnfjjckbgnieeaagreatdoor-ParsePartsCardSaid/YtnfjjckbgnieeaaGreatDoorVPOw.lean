/- vouchsafekit.Own of the rows of a policy; how long what was parsed is. -/
import Derived.Test.YtnfjjckbgnieeaaGreatDoorVPSq
import Derived.Test.YtnfjjckbgnieeaaGreatDoorVPPa
namespace Go.Proofs.YtnfjjckbgnieeaaGreatDoor
open Go.RowKit

theorem own_reads {W : World} {B : Nat} {e : TypeId} {K n : Nat} {a : Option Addr} {c : Nat} {xs : List Value} (hK : 0 < K) (h : W.ownsRow B e K (.slice a n c) n xs) : Reads W W.heap.size K a n xs := by
  refine ⟨h.1, fun h0 => ?_⟩
  obtain ⟨b, o, c', e1, h2, h3⟩ := (row_of_own h).some h0
  injection e1 with e1 _ _
  have hl : 0 < xs.length := by rw [h.1]; exact Nat.mul_pos h0 hK
  have hj : ∀ j u, xs[j]? = some u → W.cell? ((⟨b, o, none⟩ : Addr).add j) = some u := fun j u hu => by
    obtain ⟨h4, h5⟩ := List.getElem?_eq_some_iff.1 hu
    rw [add_form, h3 _ h4, h5]
  refine ⟨⟨b, o, none⟩, e1, ?_, hj⟩
  have := World.block_lt_of_cell? W _ (hj 0 _ (List.getElem?_eq_getElem hl))
  rwa [add_form] at this
theorem since_grow {w0 W W' : World} (hs : Since w0 W) {B : Nat} {e : TypeId} {K m : Nat} {v : Value} {xs : List Value} (ho : W.ownsRow B e K v m xs) (hB : w0.heap.size ≤ B) (hg : W.grownBy W' v.ownBlock) : Since w0 W' :=
  (Keep.of_grown (Z := fun b => B ≤ b) hg (fun b hb => (ho.lt b hb).1)).since hs (fun _ h => Nat.le_trans hB h)
theorem max_int {o : Oper} {x y : Operand} {ev : Operand → Value} {s t : Int} (ho : o.op = .call { callee := .builtin .max, args := #[x, y], argTypes := #[3, 3] }) (hx : ev x = .int .i64 s) (hy : ev y = .int .i64 t) (W : World) :
    (execOp ev o).run Tryz.prog W = .ok (.value (.int .i64 (max s t))) W := by
  simp only [execOp, ho]
  go_simp
section
variable {P : Program} {md : Region.Mode} {ops : Array Oper} {Q : Exit → Act → World → Prop} {S : World → Prop} {i j d d' fuel : Nat} {oi oj : Oper} {listed : Array Bool} {L : List Value} {ds : List Deferred} {w : World}
/-- An append to a row of the call's own, as one of two operations that may come first. -/
theorem wp_appendK {K : Act → World → Prop} (s x : Operand) (t : TypeId) (base : Nat) (e : TypeId) (ii : TypeInfo) (z : Value) (size bytes : Nat) (v : Value) (n : Nat) (xs : List Value) (B : Nat) (A : Option Addr) (m c : Nat) (news : List Value)
    (hd : oi.dst = some d)
    (ho : oi.op = .call { callee := .builtin .append, args := #[s, x], argTypes := #[t, t] }) (ht : P.underlying t = some (.slice e)) (hii : P.info? e = some ii) (hz : ii.zero = some z)
    (hsize : ii.size = size) (hby : ii.bytes = bytes) (hzs : z.cells.size = size) (hsz : 0 < size)
    (hs : Act.eval ⟨L.toArray, ds⟩ s = v) (hown : w.ownsRow base e size v n xs)
    (hx : Act.eval ⟨L.toArray, ds⟩ x = .slice A m c) (hrd : Reads w B size A m news) (h1 : ∀ u ∈ news, u.oneCell' = true)
    (h63 : n + m ≤ maxLen) (hbytes : (n + m) * bytes ≤ 140737488355328) (hbase : base ≤ w.heap.size)
    (h : ∀ v' w', w'.ownsRow base e size v' (n + m) (xs ++ news) → w.grownBy w' v.ownBlock → (v'.ownBlock = v.ownBlock ∨ v'.ownBlock = some w.heap.size) → K ⟨(L.set d v').toArray, ds⟩ w') : Oper.wp P oi ⟨L.toArray, ds⟩ w K Q :=
  wp_append_any w s x t ho base e ii z size bytes ht hii hz hsize hby hzs hsz v n xs hs hown B A m c news hx hrd h1 h63 hbytes hbase fun v' w' a b c => by
    rw [hd, put_list]
    exact h v' w' a b c
end
set_option maxHeartbeats 800000 in
theorem ownR_str (v : Value) (n D : Nat) (xs : List Value) (w : World) (hv : w.ownsRow D 9 1 v n xs) (h1 : ∀ u ∈ xs, u.oneCell' = true) (hm : n ≤ 1000000) :
    Calls Tryz.prog 31 #[v] w (NewRow 9 1 w n xs) := by
  obtain ⟨i0, hi, hz0, hz1, hz2⟩ := info_parts info_pr
  have HI := Lib.hid (And.intro hi (And.intro hz0 (And.intro hz1 hz2)))
  obtain ⟨a, c, rfl⟩ := own_slice hv
  have HR := Lib.hid (own_reads (by decide) (own_since hv ((Since.refl w).alloc (.cells #[] 9))))
  have H1 := Lib.hid h1
  clear hi hz0 hz1 hz2 hv h1
  go_enter Tryz.func31, Tryz.ntmps31
  go_wp2_with (at_builtin; refine wpList_append_any _ rfl (.tmp 3) (.tmp 4) 23 rfl w.heap.size 9 i0 (.string ByteArray.empty) 1 16 Tryz.underlying23 HI.out.1 HI.out.2.1 HI.out.2.2.1 HI.out.2.2.2 rfl (by decide) _ 0 [] rfl (own_made0 w 9 1) _ a n c xs rfl HR.out ?c1 ?c2 ?c3 ?c4 ?_)
  case c1 => exact H1.out
  case c2 => unfold maxLen; omega
  case c3 => omega
  case c4 => simp
  intro v' w' hown hgrow _
  have hB : Since w w' := Below.grown ((Since.refl w).alloc _) hgrow (by simp) (own_ge (own_made0 w 9 1))
  clear HR hgrow
  go_wp2_with fail
  go_ret
  refine ⟨_, rfl, ?_, hB⟩
  simpa using hown
set_option maxHeartbeats 800000 in
theorem ownR_prd (v : Value) (n D : Nat) (xs : List Value) (w : World) (hv : w.ownsRow D 36 2 v n xs) (h1 : ∀ u ∈ xs, u.oneCell' = true) (hm : n ≤ 1000000) :
    Calls Tryz.prog 32 #[v] w (NewRow 36 2 w n xs) := by
  obtain ⟨i0, hi, hz0, hz1, hz2⟩ := info_parts info_pd
  have HI := Lib.hid (And.intro hi (And.intro hz0 (And.intro hz1 hz2)))
  obtain ⟨a, c, rfl⟩ := own_slice hv
  have HR := Lib.hid (own_reads (by decide) (own_since hv ((Since.refl w).alloc (.cells #[] 36))))
  have H1 := Lib.hid h1
  clear hi hz0 hz1 hz2 hv h1
  go_enter Tryz.func32, Tryz.ntmps32
  go_wp2_with (at_builtin; refine wpList_append_any _ rfl (.tmp 3) (.tmp 4) 24 rfl w.heap.size 36 i0 (.agg #[.string ByteArray.empty, .int .i64 0]) 2 24 Tryz.underlying24 HI.out.1 HI.out.2.1 HI.out.2.2.1 HI.out.2.2.2 rfl (by decide) _ 0 [] rfl (own_made0 w 36 2) _ a n c xs rfl HR.out ?c1 ?c2 ?c3 ?c4 ?_)
  case c1 => exact H1.out
  case c2 => unfold maxLen; omega
  case c3 => omega
  case c4 => simp
  intro v' w' hown hgrow _
  have hB : Since w w' := Below.grown ((Since.refl w).alloc _) hgrow (by simp) (own_ge (own_made0 w 36 2))
  clear HR hgrow
  go_wp2_with fail
  go_ret
  refine ⟨_, rfl, ?_, hB⟩
  simpa using hown
set_option maxHeartbeats 800000 in
theorem ownR_clr (v : Value) (n D : Nat) (xs : List Value) (w : World) (hv : w.ownsRow D 38 2 v n xs) (h1 : ∀ u ∈ xs, u.oneCell' = true) (hm : n ≤ 1000000) :
    Calls Tryz.prog 33 #[v] w (NewRow 38 2 w n xs) := by
  obtain ⟨i0, hi, hz0, hz1, hz2⟩ := info_parts info_cl
  have HI := Lib.hid (And.intro hi (And.intro hz0 (And.intro hz1 hz2)))
  obtain ⟨a, c, rfl⟩ := own_slice hv
  have HR := Lib.hid (own_reads (by decide) (own_since hv ((Since.refl w).alloc (.cells #[] 38))))
  have H1 := Lib.hid h1
  clear hi hz0 hz1 hz2 hv h1
  go_enter Tryz.func33, Tryz.ntmps33
  go_wp2_with (at_builtin; refine wpList_append_any _ rfl (.tmp 3) (.tmp 4) 25 rfl w.heap.size 38 i0 (.agg #[.string ByteArray.empty, .slice none 0 0]) 2 40 Tryz.underlying25 HI.out.1 HI.out.2.1 HI.out.2.2.1 HI.out.2.2.2 rfl (by decide) _ 0 [] rfl (own_made0 w 38 2) _ a n c xs rfl HR.out ?c1 ?c2 ?c3 ?c4 ?_)
  case c1 => exact H1.out
  case c2 => unfold maxLen; omega
  case c3 => omega
  case c4 => simp
  intro v' w' hown hgrow _
  have hB : Since w w' := Below.grown ((Since.refl w).alloc _) hgrow (by simp) (own_ge (own_made0 w 38 2))
  clear HR hgrow
  go_wp2_with fail
  go_ret
  refine ⟨_, rfl, ?_, hB⟩
  simpa using hown
set_option maxHeartbeats 800000 in
theorem ownR_rul (v : Value) (n D : Nat) (xs : List Value) (w : World) (hv : w.ownsRow D 47 12 v n xs) (h1 : ∀ u ∈ xs, u.oneCell' = true) (hm : n ≤ 1000000) :
    Calls Tryz.prog 34 #[v] w (NewRow 47 12 w n xs) := by
  obtain ⟨i0, hi, hz0, hz1, hz2⟩ := info_parts info_ru
  have HI := Lib.hid (And.intro hi (And.intro hz0 (And.intro hz1 hz2)))
  obtain ⟨a, c, rfl⟩ := own_slice hv
  have HR := Lib.hid (own_reads (by decide) (own_since hv ((Since.refl w).alloc (.cells #[] 47))))
  have H1 := Lib.hid h1
  clear hi hz0 hz1 hz2 hv h1
  go_enter Tryz.func34, Tryz.ntmps34
  go_wp2_with (at_builtin; refine wpList_append_any _ rfl (.tmp 3) (.tmp 4) 26 rfl w.heap.size 47 i0 (.agg #[.string ByteArray.empty, .string ByteArray.empty, .int .i64 0, .bool false, .string ByteArray.empty, .bool false, .string ByteArray.empty, .bool false, .string ByteArray.empty, .bool false, .string ByteArray.empty, .slice none 0 0]) 12 160 Tryz.underlying26 HI.out.1 HI.out.2.1 HI.out.2.2.1 HI.out.2.2.2 rfl (by decide) _ 0 [] rfl (own_made0 w 47 12) _ a n c xs rfl HR.out ?c1 ?c2 ?c3 ?c4 ?_)
  case c1 => exact H1.out
  case c2 => unfold maxLen; omega
  case c3 => omega
  case c4 => simp
  intro v' w' hown hgrow _
  have hB : Since w w' := Below.grown ((Since.refl w).alloc _) hgrow (by simp) (own_ge (own_made0 w 47 12))
  clear HR hgrow
  go_wp2_with fail
  go_ret
  refine ⟨_, rfl, ?_, hB⟩
  simpa using hown
set_option maxHeartbeats 800000 in
theorem ownR_grn (v : Value) (n D : Nat) (xs : List Value) (w : World) (hv : w.ownsRow D 49 13 v n xs) (h1 : ∀ u ∈ xs, u.oneCell' = true) (hm : n ≤ 1000000) :
    Calls Tryz.prog 35 #[v] w (NewRow 49 13 w n xs) := by
  obtain ⟨i0, hi, hz0, hz1, hz2⟩ := info_parts info_gr
  have HI := Lib.hid (And.intro hi (And.intro hz0 (And.intro hz1 hz2)))
  obtain ⟨a, c, rfl⟩ := own_slice hv
  have HR := Lib.hid (own_reads (by decide) (own_since hv ((Since.refl w).alloc (.cells #[] 49))))
  have H1 := Lib.hid h1
  clear hi hz0 hz1 hz2 hv h1
  go_enter Tryz.func35, Tryz.ntmps35
  go_wp2_with (at_builtin; refine wpList_append_any _ rfl (.tmp 3) (.tmp 4) 27 rfl w.heap.size 49 i0 (.agg #[.string ByteArray.empty, .string ByteArray.empty, .string ByteArray.empty, .int .i64 0, .bool false, .string ByteArray.empty, .bool false, .string ByteArray.empty, .bool false, .string ByteArray.empty, .bool false, .string ByteArray.empty, .slice none 0 0]) 13 176 Tryz.underlying27 HI.out.1 HI.out.2.1 HI.out.2.2.1 HI.out.2.2.2 rfl (by decide) _ 0 [] rfl (own_made0 w 49 13) _ a n c xs rfl HR.out ?c1 ?c2 ?c3 ?c4 ?_)
  case c1 => exact H1.out
  case c2 => unfold maxLen; omega
  case c3 => omega
  case c4 => simp
  intro v' w' hown hgrow _
  have hB : Since w w' := Below.grown ((Since.refl w).alloc _) hgrow (by simp) (own_ge (own_made0 w 49 13))
  clear HR hgrow
  go_wp2_with fail
  go_ret
  refine ⟨_, rfl, ?_, hB⟩
  simpa using hown
theorem part_len {st : PSt} {r : Toks} {st1 : PSt} {r1 : Toks} (h : partT st r = .ok (st1, r1)) : st1.p.pr.length ≤ st.p.pr.length + 1 ∧ st1.p.pd.length ≤ st.p.pd.length + 1 ∧ st1.p.cl.length ≤ st.p.cl.length + 1 ∧ st1.p.ru.length ≤ st.p.ru.length + 1 ∧ st1.p.gr.length ≤ st.p.gr.length + 1 := by
  rw [partT] at h
  split at h
  · rw [principalT] at h
    split at h
    · cases h
    · injection h with h; injection h with e3 e4; subst e3; simp
  split at h
  · rw [predT] at h
    split at h
    · cases h
    · split at h
      · cases h
      · split at h
        · cases h
        · injection h with h; injection h with e3 e4; subst e3; simp
  split at h
  · rw [clearT] at h
    split at h
    · cases h
    · split at h
      · cases h
      · split at h
        · cases h
        · injection h with h; injection h with e3 e4; subst e3; simp
  split at h
  · rw [quotaT] at h
    split at h
    · cases h
    · injection h with h; injection h with e3 e4; subst e3; simp
  split at h
  · rw [budgetT] at h
    split at h
    · cases h
    · injection h with h; injection h with e3 e4; subst e3; simp
  · rw [saysT] at h
    split at h
    · cases h
    · split at h
      · cases h
      · split at h
        · rw [grantT] at h
          split at h
          · cases h
          · split at h
            · cases h
            · split at h
              · cases h
              · split at h
                · cases h
                · injection h with h; injection h with e3 e4; subst e3; simp
        · rw [ruleT] at h
          split at h
          · cases h
          · split at h
            · cases h
            · injection h with h; injection h with e3 e4; subst e3; simp
theorem polF_len : ∀ (f : Nat) (st : PSt) (r : Toks) (st1 : PSt), polF f st r = .ok st1 → st1.p.pr.length ≤ st.p.pr.length + r.length ∧ st1.p.pd.length ≤ st.p.pd.length + r.length ∧ st1.p.cl.length ≤ st.p.cl.length + r.length ∧ st1.p.ru.length ≤ st.p.ru.length + r.length ∧ st1.p.gr.length ≤ st.p.gr.length + r.length
  | 0, _, _, _, e => by cases e
  | f + 1, st, r, st1, e => by
    rw [polF] at e
    split at e
    · injection e with e
      subst e
      omega
    · split at e
      · cases e
      · next st2 r2 hs =>
        have ih := polF_len f st2 r2 st1 e
        have hl := stmtT_eats.len hs
        rw [stmtT] at hs
        split at hs
        · cases hs
        · next sa ra hpa =>
          have hp := part_len hpa
          split at hs
          · cases hs
          · injection hs with hs; injection hs with e3 e4
            subst e3
            omega
/-- The lists of what was parsed are no longer than the text. -/
theorem policy_len {s : Txt} (hs : s.length ≤ 65536) : (policyL s).1.pr.length ≤ 65536 ∧ (policyL s).1.pd.length ≤ 65536 ∧ (policyL s).1.cl.length ≤ 65536 ∧ (policyL s).1.ru.length ≤ 65536 ∧ (policyL s).1.gr.length ≤ 65536 := by
  rcases policy_cases s with ⟨st, h0, h1, h2⟩ | ⟨-, h, -⟩
  · rw [h2]
    have hl := polF_len _ _ _ _ h1
    have hm : (txtsK (allL s).1).length ≤ 65536 := by
      unfold txtsK
      rw [List.length_map, allL_toks hs h0]
      exact Nat.le_trans toks_many hs
    simp only [pst0, pol0, List.length_nil, Nat.zero_add] at hl
    exact ⟨Nat.le_trans hl.1 hm, Nat.le_trans hl.2.1 hm, Nat.le_trans hl.2.2.1 hm, Nat.le_trans hl.2.2.2.1 hm, Nat.le_trans hl.2.2.2.2 hm⟩
  · rw [h]
    simp [pol0]
end Go.Proofs.YtnfjjckbgnieeaaGreatDoor
