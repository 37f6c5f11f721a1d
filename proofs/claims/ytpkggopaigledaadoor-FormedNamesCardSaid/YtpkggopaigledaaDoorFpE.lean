/- vouchsafekit.Own; rows of the call's own whose elements hold rows of their own. -/
import Derived.Test.YtpkggopaigledaaDoorFoU
import Derived.Test.YtpkggopaigledaaDoorAuto
import Derived.Test.YtpkggopaigledaaDoorHeldS
import Derived.Test.YtpkggopaigledaaDoorInv
import Derived.Lib.OwnKind
namespace Go.Proofs.YtpkggopaigledaaDoor
open Go.RowKit

section
variable {w w' : World} {base B B' : Nat} {e e' : TypeId} {size size' : Nat} {v v' : Value} {n n' : Nat} {xs xs' : List Value}
theorem own_since (h : w.ownsRow base e size v n xs) (hs : Since w w') : w'.ownsRow base e size v n xs := own_sinceF h hs
theorem own_base (h : w.ownsRow B e size v n xs) (hb : B' ≤ B) : w.ownsRow B' e size v n xs := by
  obtain ⟨hl, h | ⟨g, cap, cur, hv, hgb, r⟩⟩ := h
  · exact ⟨hl, .inl h⟩
  · exact ⟨hl, .inr ⟨g, cap, cur, hv, Nat.le_trans hb hgb, r⟩⟩
theorem own_kind_apart (h1 : w.ownsRow B e size v n xs) (h2 : w.ownsRow B' e' size' v' n' xs') (he : e ≠ e') : v.ownBlock = none ∨ v.ownBlock ≠ v'.ownBlock := by
  cases hb : v.ownBlock with
  | none => exact .inl rfl
  | some b =>
    refine .inr fun h => ?_
    obtain ⟨c1, f1, k1⟩ := Lib.ownsRow_kind h1 b hb
    obtain ⟨c2, f2, k2⟩ := Lib.ownsRow_kind h2 b h.symm
    rw [k1] at k2
    injection k2 with k2
    injection k2 with _ k2
    exact he k2
theorem own_cel_ne {g : Nat} {cs : Array Value} {T : TypeId} (h : w.ownsRow B e size v n xs) (hc : Cel w g cs T) (he : e ≠ T) : v.ownBlock = none ∨ v.ownBlock ≠ some g := by
  cases hb : v.ownBlock with
  | none => exact .inl rfl
  | some b =>
    refine .inr fun h' => ?_
    injection h' with h'
    subst h'
    obtain ⟨c1, f1, k1⟩ := Lib.ownsRow_kind h b hb
    unfold Cel at hc
    rw [hc] at k1
    injection k1 with k1
    injection k1 with _ k1
    exact he k1.symm
/-- Another row grows. -/
theorem own_other (h : w.ownsRow B e size v n xs) (h2 : w.ownsRow B' e' size' v' n' xs') (he : e ≠ e') (hg : w.grownBy w' v'.ownBlock) : w'.ownsRow B e size v n xs := h.kept hg (own_kind_apart h h2 he)
theorem grown_setRow (w : World) (g : Nat) (cs : Array Value) : w.grownBy (w.setRow g cs) (some g) := ⟨rfl, rfl, rfl, by simp, fun k _ hne => setRow_other w g k cs (fun e => hne (by rw [e]))⟩
theorem grown_setCell (w : World) (g j : Nat) (u : Value) : w.grownBy (w.setCell ⟨g, j, none⟩ u) (some g) := by
  have b := Below.setCell (p := ⟨g, j, none⟩) (Below.refl 0 w) (Nat.zero_le _) u
  exact ⟨b.os, b.tape, b.output, b.size, fun k _ hk => Below.heap_setCell w _ u k (fun e => hk (by rw [e]))⟩
theorem own_setRow {g : Nat} {cs ds : Array Value} {T : TypeId} (h : w.ownsRow B e size v n xs) (hc : Cel w g cs T) (he : e ≠ T) : (w.setRow g ds).ownsRow B e size v n xs := h.kept (grown_setRow w g ds) (own_cel_ne h hc he)
theorem own_setCell {g j : Nat} {cs : Array Value} {T : TypeId} {u : Value} (h : w.ownsRow B e size v n xs) (hc : Cel w g cs T) (he : e ≠ T) : (w.setCell ⟨g, j, none⟩ u).ownsRow B e size v n xs := h.kept (grown_setCell w g j u) (own_cel_ne h hc he)
theorem cel_own {g : Nat} {cs : Array Value} {T : TypeId} (hc : Cel w g cs T) (h : w.ownsRow B e size v n xs) (he : e ≠ T) (hg : w.grownBy w' v.ownBlock) : Cel w' g cs T := by
  refine hc.grown hg fun hh => ?_
  rcases own_cel_ne h hc he with h0 | h0
  · rw [h0] at hh; cases hh
  · exact h0 hh.symm
theorem own_slice (h : w.ownsRow B e size v n xs) : ∃ a c, v = .slice a n c := (row_of_own h).len
end
def apartV (u v : Value) : Prop := u.ownBlock = none ∨ u.ownBlock ≠ v.ownBlock
/-- A row of the call's own, each of whose elements holds a row of its own. -/
structure Nest {α : Type} (W : World) (B : Nat) (e1 : TypeId) (K1 : Nat) (c : α → Value → List Value) (e2 : TypeId) (K2 : Nat) (cnt : α → Nat) (inn : α → List Value) (v : Value) (L : List (α × Value)) : Prop where
  row : W.ownsRow B e1 K1 v L.length (L.flatMap fun p => c p.1 p.2)
  ins : ∀ p ∈ L, W.ownsRow B e2 K2 p.2 (cnt p.1) (inn p.1)
  apart : L.Pairwise fun p q => apartV p.2 q.2
section
variable {α : Type} {W W' : World} {B : Nat} {e1 : TypeId} {K1 : Nat} {c : α → Value → List Value} {e2 : TypeId} {K2 : Nat} {cnt : α → Nat} {inn : α → List Value} {v : Value} {L : List (α × Value)}
theorem Nest.nil : Nest W B e1 K1 c e2 K2 cnt inn (.slice none 0 0) [] := ⟨World.ownsRow_nil _ _ _ _, (fun _ h => by cases h), List.Pairwise.nil⟩
theorem Nest.next (h : Nest W B e1 K1 c e2 K2 cnt inn v L) (hs : Since W W') : Nest W' B e1 K1 c e2 K2 cnt inn v L := ⟨own_since h.row hs, fun p hp => own_since (h.ins p hp) hs, h.apart⟩
/-- Something of another kind grows, or is stored to. -/
theorem Nest.other {row : Option Nat} (h : Nest W B e1 K1 c e2 K2 cnt inn v L) (hg : W.grownBy W' row) (h1 : v.ownBlock = none ∨ v.ownBlock ≠ row) (h2 : ∀ p ∈ L, p.2.ownBlock = none ∨ p.2.ownBlock ≠ row) : Nest W' B e1 K1 c e2 K2 cnt inn v L := ⟨h.row.kept hg h1, fun p hp => (h.ins p hp).kept hg (h2 p hp), h.apart⟩
theorem Nest.cel {g : Nat} {cs : Array Value} {T : TypeId} (h : Nest W B e1 K1 c e2 K2 cnt inn v L) (hc : Cel W g cs T) (hg : W.grownBy W' (some g)) (h1 : e1 ≠ T) (h2 : e2 ≠ T) : Nest W' B e1 K1 c e2 K2 cnt inn v L :=
  h.other hg (own_cel_ne h.row hc h1) (fun p hp => own_cel_ne (h.ins p hp) hc h2)
theorem Nest.own {B' : Nat} {e' : TypeId} {size' n' : Nat} {v' : Value} {xs' : List Value} (h : Nest W B e1 K1 c e2 K2 cnt inn v L) (hr : W.ownsRow B' e' size' v' n' xs') (hg : W.grownBy W' v'.ownBlock) (h1 : e1 ≠ e') (h2 : e2 ≠ e') : Nest W' B e1 K1 c e2 K2 cnt inn v L :=
  h.other hg (own_kind_apart h.row hr h1) (fun p hp => own_kind_apart (h.ins p hp) hr h2)
/-- One more: its row was made behind W0, in which the others stood. -/
theorem Nest.push {W0 : World} {x : α} {u v' : Value} {xs : List Value} (h : Nest W B e1 K1 c e2 K2 cnt inn v L) (h0 : ∀ p ∈ L, ∀ b, p.2.ownBlock = some b → b < W0.heap.size) (hu : W.ownsRow W0.heap.size e2 K2 u (cnt x) (inn x)) (hB : B ≤ W0.heap.size)
    (hv : W'.ownsRow B e1 K1 v' (L.length + 1) ((L.flatMap fun p => c p.1 p.2) ++ xs)) (hx : xs = c x u) (hg : W.grownBy W' v.ownBlock) (he : e2 ≠ e1) : Nest W' B e1 K1 c e2 K2 cnt inn v' (L ++ [(x, u)]) := by
  subst hx
  refine ⟨?_, fun p hp => ?_, ?_⟩
  · rw [List.length_append, List.flatMap_append]
    simpa using hv
  · rcases List.mem_append.1 hp with hp | hp
    · exact (h.ins p hp).kept hg (own_kind_apart (h.ins p hp) h.row he)
    · have e : p = (x, u) := by simpa using hp
      subst e
      exact (own_base hu hB).kept hg (own_kind_apart hu h.row he)
  · rw [List.pairwise_append]
    refine ⟨h.apart, List.pairwise_singleton _ _, fun p hp q hq => ?_⟩
    have e : q = (x, u) := by simpa using hq
    subst e
    show p.2.ownBlock = none ∨ p.2.ownBlock ≠ u.ownBlock
    cases hb : p.2.ownBlock with
    | none => exact .inl rfl
    | some b =>
      refine .inr fun hh => ?_
      have l1 := h0 p hp b hb
      have l2 := (hu.lt b hh.symm).1
      omega
end
/-- A row of things of K cells, as a row to read. -/
theorem krow_reads {α : Type} {K : Nat} {R : World → Nat → Nat → α → Prop} {f : α → List Value} {W : World} {a : Option Addr} {n c : Nat} {L : List α} (hK : 0 < K) (hf : ∀ x, (f x).length = K) (hR : ∀ b o x, R W b o x → ∀ j u, (f x)[j]? = some u → W.cell? ⟨b, o + j, none⟩ = some u) (h : KRow K R W (.slice a n c) L) : Reads W W.heap.size K a n (L.flatMap f) := by
  have hn := h.form
  refine ⟨by rw [flat_len hf, hn], fun h0 => ?_⟩
  obtain ⟨b, o, rfl, hc, hat⟩ := h.get (by omega)
  have hj : ∀ j u, (L.flatMap f)[j]? = some u → W.cell? ((⟨b, o, none⟩ : Addr).add j) = some u := by
    intro j u hu
    have hjl : j < (L.flatMap f).length := (List.getElem?_eq_some_iff.1 hu).1
    rw [flat_len hf] at hjl
    have hk : j / K < L.length := Nat.div_lt_of_lt_mul (by rw [Nat.mul_comm]; exact hjl)
    have hm : j % K < K := Nat.mod_lt _ hK
    have e : j / K * K + j % K = j := by rw [Nat.mul_comm]; exact Nat.div_add_mod j K
    rw [← e, flat_at hf L (j / K) hk (j % K) hm] at hu
    have := hR _ _ _ (hat (j / K) hk) (j % K) u hu
    rw [Nat.add_assoc, e] at this
    rw [add_form]; exact this
  refine ⟨_, rfl, ?_, hj⟩
  have h1 : 0 < (L.flatMap f).length := by rw [flat_len hf]; exact Nat.mul_pos (by omega) hK
  have := World.block_lt_of_cell? W _ (hj 0 _ (List.getElem?_eq_getElem h1))
  rwa [add_form] at this
def txtL (x : Txt) : List Value := [strV x]
def prdL (x : Txt × Int) : List Value := [strV x.1, .int .i64 x.2]
def atmL (x : Atm) : List Value := (atmC x).toList
theorem txt_reads {W : World} {a : Option Addr} {n c : Nat} {L : List Txt} (h : TRow W (.slice a n c) L) : Reads W W.heap.size 1 a n (L.flatMap txtL) :=
  krow_reads (f := txtL) (by decide) (fun _ => rfl) (fun b o x hx j u hu => by
    match j, hu with
    | 0, hu => have e : strV x = u := by simpa [txtL] using hu
               rw [← e]; exact hx) h
theorem prd_reads {W : World} {a : Option Addr} {n c : Nat} {L : List (Txt × Int)} (h : PRow W (.slice a n c) L) : Reads W W.heap.size 2 a n (L.flatMap prdL) :=
  krow_reads (f := prdL) (by decide) (fun _ => rfl) (fun b o x hx j u hu => by
    match j, hu with
    | 0, hu => have e : strV x.1 = u := by simpa [prdL] using hu
               rw [← e]; exact hx.1
    | 1, hu => have e : Value.int .i64 x.2 = u := by simpa [prdL] using hu
               rw [← e]; exact hx.2) h
theorem atm_reads {W : World} {a : Option Addr} {n c : Nat} {L : List Atm} (h : ARow W (.slice a n c) L) : Reads W W.heap.size 11 a n (L.flatMap atmL) :=
  krow_reads (f := atmL) (by decide) (fun _ => rfl) (fun b o x hx j u hu => hx j u (by rw [← Array.getElem?_toList]; exact hu)) h
theorem flat_one {α : Type} {f : α → List Value} (hf : ∀ a, ∀ u ∈ f a, u.oneCell' = true) (L : List α) : ∀ u ∈ L.flatMap f, u.oneCell' = true := by
  intro u hu
  obtain ⟨t, _, h⟩ := List.mem_flatMap.1 hu
  exact hf t u h
theorem txtL_one (x : Txt) : ∀ u ∈ txtL x, u.oneCell' = true := by simp [txtL, strV, Value.oneCell']
theorem prdL_one (x : Txt × Int) : ∀ u ∈ prdL x, u.oneCell' = true := by simp [prdL, strV, Value.oneCell']
theorem atmL_one (x : Atm) : ∀ u ∈ atmL x, u.oneCell' = true := by simp [atmL, atmC, Value.oneCell']
/-- A result that is a new row. -/
def NewRow (e : TypeId) (K : Nat) (w : World) (n : Nat) (xs : List Value) (x : Ending) (w' : World) : Prop := ∃ v, x = .returned v ∧ w'.ownsRow w.heap.size e K v n xs ∧ Since w w'
theorem own_made0 (w : World) (e : TypeId) (K : Nat) : (w.alloc (.cells #[] e)).ownsRow w.heap.size e K (.slice (some ⟨w.heap.size, 0, none⟩) 0 0) 0 [] :=
  ⟨by simp, .inr ⟨w.heap.size, 0, #[], rfl, Nat.le_refl _, heap_alloc_new w _, Nat.le_refl _, Nat.zero_le _, by simp, by simp⟩⟩
theorem own_txt_info : (Tryd.prog.info? 9).map (fun i => (i.zero, i.size, i.bytes)) = some (some (.string ByteArray.empty), 1, 16) := by kernel_rfl
set_option maxHeartbeats 400000 in
theorem own_txt (v : Value) (L : List Txt) (w : World) (hv : TRow w v L) (hm : L.length ≤ 1000000) :
    Calls Tryd.prog 39 #[v] w (NewRow 9 1 w L.length (L.flatMap txtL)) := by
  obtain ⟨i0, hi, hz0, hz1, hz2⟩ := info_parts own_txt_info
  have HI := Lib.hid (And.intro hi (And.intro hz0 (And.intro hz1 hz2)))
  obtain ⟨a, c, rfl⟩ := hv.slice
  have HR := Lib.hid (txt_reads (tnext hv ((Since.refl w).alloc (.cells #[] 9))))
  clear hi hz0 hz1 hz2 hv
  go_enter Tryd.func39, Tryd.ntmps39
  go_wp2_with (at_builtin; refine wpList_append_any _ rfl (.tmp 3) (.tmp 4) 22 rfl w.heap.size 9 i0 (.string ByteArray.empty) 1 16 Tryd.underlying22 HI.out.1 HI.out.2.1 HI.out.2.2.1 HI.out.2.2.2 rfl (by decide) _ 0 [] rfl (own_made0 w 9 1) _ a L.length c (L.flatMap txtL) rfl HR.out ?c1 ?c2 ?c3 ?c4 ?_)
  case c1 => exact flat_one txtL_one L
  case c2 => unfold maxLen; omega
  case c3 => omega
  case c4 => simp
  intro v' w' hown hgrow _
  have hB : Since w w' := Below.grown ((Since.refl w).alloc _) hgrow (by simp) (own_ge (own_made0 w 9 1))
  clear HR hgrow
  go_wp2_with fail
  go_ret
  refine ⟨_, rfl, ?_, hB⟩
  simpa using hown
theorem own_prd_info : (Tryd.prog.info? 47).map (fun i => (i.zero, i.size, i.bytes)) = some (some (.agg #[.string ByteArray.empty, .int .i64 0]), 2, 24) := by kernel_rfl
set_option maxHeartbeats 400000 in
theorem own_prd (v : Value) (L : List (Txt × Int)) (w : World) (hv : PRow w v L) (hm : L.length ≤ 1000000) :
    Calls Tryd.prog 40 #[v] w (NewRow 47 2 w L.length (L.flatMap prdL)) := by
  obtain ⟨i0, hi, hz0, hz1, hz2⟩ := info_parts own_prd_info
  have HI := Lib.hid (And.intro hi (And.intro hz0 (And.intro hz1 hz2)))
  obtain ⟨a, c, rfl⟩ := hv.slice
  have HR := Lib.hid (prd_reads (pnext hv ((Since.refl w).alloc (.cells #[] 47))))
  clear hi hz0 hz1 hz2 hv
  go_enter Tryd.func40, Tryd.ntmps40
  go_wp2_with (at_builtin; refine wpList_append_any _ rfl (.tmp 3) (.tmp 4) 23 rfl w.heap.size 47 i0 (.agg #[.string ByteArray.empty, .int .i64 0]) 2 24 Tryd.underlying23 HI.out.1 HI.out.2.1 HI.out.2.2.1 HI.out.2.2.2 rfl (by decide) _ 0 [] rfl (own_made0 w 47 2) _ a L.length c (L.flatMap prdL) rfl HR.out ?c1 ?c2 ?c3 ?c4 ?_)
  case c1 => exact flat_one prdL_one L
  case c2 => unfold maxLen; omega
  case c3 => omega
  case c4 => simp
  intro v' w' hown hgrow _
  have hB : Since w w' := Below.grown ((Since.refl w).alloc _) hgrow (by simp) (own_ge (own_made0 w 47 2))
  clear HR hgrow
  go_wp2_with fail
  go_ret
  refine ⟨_, rfl, ?_, hB⟩
  simpa using hown
theorem own_atm_info : (Tryd.prog.info? 39).map (fun i => (i.zero, i.size, i.bytes)) = some (some (.agg #[.string ByteArray.empty, .string ByteArray.empty, .int .i64 0, .bool false, .string ByteArray.empty, .bool false, .string ByteArray.empty, .bool false, .string ByteArray.empty, .bool false, .string ByteArray.empty]), 11, 136) := by kernel_rfl
set_option maxHeartbeats 400000 in
theorem own_atm (v : Value) (L : List Atm) (w : World) (hv : ARow w v L) (hm : L.length ≤ 1000000) :
    Calls Tryd.prog 41 #[v] w (NewRow 39 11 w L.length (L.flatMap atmL)) := by
  obtain ⟨i0, hi, hz0, hz1, hz2⟩ := info_parts own_atm_info
  have HI := Lib.hid (And.intro hi (And.intro hz0 (And.intro hz1 hz2)))
  obtain ⟨a, c, rfl⟩ := hv.slice
  have HR := Lib.hid (atm_reads (anext hv ((Since.refl w).alloc (.cells #[] 39))))
  clear hi hz0 hz1 hz2 hv
  go_enter Tryd.func41, Tryd.ntmps41
  go_wp2_with (at_builtin; refine wpList_append_any _ rfl (.tmp 3) (.tmp 4) 40 rfl w.heap.size 39 i0 (.agg #[.string ByteArray.empty, .string ByteArray.empty, .int .i64 0, .bool false, .string ByteArray.empty, .bool false, .string ByteArray.empty, .bool false, .string ByteArray.empty, .bool false, .string ByteArray.empty]) 11 136 Tryd.underlying40 HI.out.1 HI.out.2.1 HI.out.2.2.1 HI.out.2.2.2 rfl (by decide) _ 0 [] rfl (own_made0 w 39 11) _ a L.length c (L.flatMap atmL) rfl HR.out ?c1 ?c2 ?c3 ?c4 ?_)
  case c1 => exact flat_one atmL_one L
  case c2 => unfold maxLen; omega
  case c3 => omega
  case c4 => simp
  intro v' w' hown hgrow _
  have hB : Since w w' := Below.grown ((Since.refl w).alloc _) hgrow (by simp) (own_ge (own_made0 w 39 11))
  clear HR hgrow
  go_wp2_with fail
  go_ret
  refine ⟨_, rfl, ?_, hB⟩
  simpa using hown
section
variable {o : Oper} {x y : Operand} {ev : Operand → Value}
theorem st_clr {g k : Nat} {a : Option Addr} {n c : Nat} {cs : Array Value} {T : TypeId} (ho : o.op = Op.store 24 x y) (hx : ev x = .pointer (some ⟨g, k, none⟩)) (hy : ev y = .slice a n c) (W : World) (h : Cel W g cs T) (hk : (cs[k]?).isSome = true) :
    (execOp ev o).run Tryd.prog W = .ok .skip (W.setCell ⟨g, k, none⟩ (.slice a n c)) := by
  obtain ⟨u, hu⟩ := Option.isSome_iff_exists.1 hk
  have h1 : W.cell? ⟨g, k, none⟩ = some u := (h.cell k).trans hu
  have h2 := h.free k
  simp only [execOp, ho]
  go_simp
theorem st_rul {g k : Nat} {a : Option Addr} {n c : Nat} {cs : Array Value} {T : TypeId} (ho : o.op = Op.store 25 x y) (hx : ev x = .pointer (some ⟨g, k, none⟩)) (hy : ev y = .slice a n c) (W : World) (h : Cel W g cs T) (hk : (cs[k]?).isSome = true) :
    (execOp ev o).run Tryd.prog W = .ok .skip (W.setCell ⟨g, k, none⟩ (.slice a n c)) := by
  obtain ⟨u, hu⟩ := Option.isSome_iff_exists.1 hk
  have h1 : W.cell? ⟨g, k, none⟩ = some u := (h.cell k).trans hu
  have h2 := h.free k
  simp only [execOp, ho]
  go_simp
theorem st_grn {g k : Nat} {a : Option Addr} {n c : Nat} {cs : Array Value} {T : TypeId} (ho : o.op = Op.store 26 x y) (hx : ev x = .pointer (some ⟨g, k, none⟩)) (hy : ev y = .slice a n c) (W : World) (h : Cel W g cs T) (hk : (cs[k]?).isSome = true) :
    (execOp ev o).run Tryd.prog W = .ok .skip (W.setCell ⟨g, k, none⟩ (.slice a n c)) := by
  obtain ⟨u, hu⟩ := Option.isSome_iff_exists.1 hk
  have h1 : W.cell? ⟨g, k, none⟩ = some u := (h.cell k).trans hu
  have h2 := h.free k
  simp only [execOp, ho]
  go_simp
theorem st_txs {g k : Nat} {a : Option Addr} {n c : Nat} {cs : Array Value} {T : TypeId} (ho : o.op = Op.store 22 x y) (hx : ev x = .pointer (some ⟨g, k, none⟩)) (hy : ev y = .slice a n c) (W : World) (h : Cel W g cs T) (hk : (cs[k]?).isSome = true) :
    (execOp ev o).run Tryd.prog W = .ok .skip (W.setCell ⟨g, k, none⟩ (.slice a n c)) := by
  obtain ⟨u, hu⟩ := Option.isSome_iff_exists.1 hk
  have h1 : W.cell? ⟨g, k, none⟩ = some u := (h.cell k).trans hu
  have h2 := h.free k
  simp only [execOp, ho]
  go_simp
theorem st_prs {g k : Nat} {a : Option Addr} {n c : Nat} {cs : Array Value} {T : TypeId} (ho : o.op = Op.store 23 x y) (hx : ev x = .pointer (some ⟨g, k, none⟩)) (hy : ev y = .slice a n c) (W : World) (h : Cel W g cs T) (hk : (cs[k]?).isSome = true) :
    (execOp ev o).run Tryd.prog W = .ok .skip (W.setCell ⟨g, k, none⟩ (.slice a n c)) := by
  obtain ⟨u, hu⟩ := Option.isSome_iff_exists.1 hk
  have h1 : W.cell? ⟨g, k, none⟩ = some u := (h.cell k).trans hu
  have h2 := h.free k
  simp only [execOp, ho]
  go_simp
theorem st_ats {g k : Nat} {a : Option Addr} {n c : Nat} {cs : Array Value} {T : TypeId} (ho : o.op = Op.store 40 x y) (hx : ev x = .pointer (some ⟨g, k, none⟩)) (hy : ev y = .slice a n c) (W : World) (h : Cel W g cs T) (hk : (cs[k]?).isSome = true) :
    (execOp ev o).run Tryd.prog W = .ok .skip (W.setCell ⟨g, k, none⟩ (.slice a n c)) := by
  obtain ⟨u, hu⟩ := Option.isSome_iff_exists.1 hk
  have h1 : W.cell? ⟨g, k, none⟩ = some u := (h.cell k).trans hu
  have h2 := h.free k
  simp only [execOp, ho]
  go_simp
theorem st_row {P : Program} {ty T : TypeId} {g : Nat} {cells old : Array Value} (ho : o.op = Op.store ty x y) (hx : ev x = .pointer (some ⟨g, 0, none⟩)) (hy : ev y = .agg cells) (hi : (P.info? ty).map (·.size) = some cells.size) (hs : old.size = cells.size) (h1 : cells.all (·.oneCell') = true) (W : World) (h : Cel W g old T) :
    (execOp ev o).run P W = .ok .skip (W.setRow g cells) := by
  simp only [execOp, ho, hx, hy, Instr.storeAt, Instr.sureAddr, Sem.run_bind, Sem.run_pure, Result.andThen_ok, run_storeVar_row W g T ty old cells h hi hs h1]
end
section
variable {P : Program} {md : Region.Mode} {ops : Array Oper} {Q : Exit → Act → World → Prop} {S : World → Prop} {i j d d' fuel : Nat} {oi oj : Oper} {listed : Array Bool} {L : List Value} {ds : List Deferred} {w : World}
/-- Two may come first: one yields a value, the other is a call. -/
theorem hx_two_vc (v : Value) (w1 : World) (f : FuncId) (args : Array Value) {Rl : Ending → World → Prop} (hi : ops[i]? = some oi) (hj : ops[j]? = some oj) (hr : Region.ready md ops listed = [i, j]) (hwi : Region.wanted oi (yielded ops L.toArray) = true) (hwj : Region.wanted oj (yielded ops L.toArray) = true)
    (hd : oi.dst = some d) (hrun : (execOp (Act.eval ⟨L.toArray, ds⟩) oi).run P w = .ok (.value v) w1) (hS : S w1)
    (hd' : oj.dst = some d') (hrun' : (execOp (Act.eval ⟨L.toArray, ds⟩) oj).run P w = .ok (.enter f args) w) (hc : Calls P f args w Rl)
    (h1 : wpAnyH P md ops Q S fuel (listed.setIfInBounds i true) ⟨(L.set d v).toArray, ds⟩ w1)
    (h2 : ∀ e w', Rl e w' → ∃ v, e = .returned v ∧ S w' ∧ wpAnyH P md ops Q S fuel (listed.setIfInBounds j true) ⟨(L.set d' v).toArray, ds⟩ w') : wpAnyH P md ops Q S (fuel + 1) listed ⟨L.toArray, ds⟩ w :=
  hx_two hi hj hr hwi hwj (wp_value hd hrun ⟨hS, h1⟩) (wp_calls f args hd' hrun' hc fun e w' hR => by
    obtain ⟨v, he, h3, h4⟩ := h2 e w' hR
    exact ⟨v, he, h3, h4⟩)
theorem hx_two_cv (f : FuncId) (args : Array Value) {Rl : Ending → World → Prop} (v : Value) (w1 : World) (hi : ops[i]? = some oi) (hj : ops[j]? = some oj) (hr : Region.ready md ops listed = [i, j]) (hwi : Region.wanted oi (yielded ops L.toArray) = true) (hwj : Region.wanted oj (yielded ops L.toArray) = true)
    (hd' : oi.dst = some d') (hrun' : (execOp (Act.eval ⟨L.toArray, ds⟩) oi).run P w = .ok (.enter f args) w) (hc : Calls P f args w Rl)
    (hd : oj.dst = some d) (hrun : (execOp (Act.eval ⟨L.toArray, ds⟩) oj).run P w = .ok (.value v) w1) (hS : S w1)
    (h2 : ∀ e w', Rl e w' → ∃ v, e = .returned v ∧ S w' ∧ wpAnyH P md ops Q S fuel (listed.setIfInBounds i true) ⟨(L.set d' v).toArray, ds⟩ w')
    (h1 : wpAnyH P md ops Q S fuel (listed.setIfInBounds j true) ⟨(L.set d v).toArray, ds⟩ w1) : wpAnyH P md ops Q S (fuel + 1) listed ⟨L.toArray, ds⟩ w :=
  hx_two hi hj hr hwi hwj (wp_calls f args hd' hrun' hc fun e w' hR => by
    obtain ⟨v, he, h3, h4⟩ := h2 e w' hR
    exact ⟨v, he, h3, h4⟩) (wp_value hd hrun ⟨hS, h1⟩)
theorem hx_two_vv (v : Value) (w1 : World) (v2 : Value) (w2 : World) (hi : ops[i]? = some oi) (hj : ops[j]? = some oj) (hr : Region.ready md ops listed = [i, j]) (hwi : Region.wanted oi (yielded ops L.toArray) = true) (hwj : Region.wanted oj (yielded ops L.toArray) = true)
    (hd : oi.dst = some d) (hrun : (execOp (Act.eval ⟨L.toArray, ds⟩) oi).run P w = .ok (.value v) w1) (hS : S w1)
    (hd' : oj.dst = some d') (hrun' : (execOp (Act.eval ⟨L.toArray, ds⟩) oj).run P w = .ok (.value v2) w2) (hS2 : S w2)
    (h1 : wpAnyH P md ops Q S fuel (listed.setIfInBounds i true) ⟨(L.set d v).toArray, ds⟩ w1)
    (h2 : wpAnyH P md ops Q S fuel (listed.setIfInBounds j true) ⟨(L.set d' v2).toArray, ds⟩ w2) : wpAnyH P md ops Q S (fuel + 1) listed ⟨L.toArray, ds⟩ w :=
  hx_two hi hj hr hwi hwj (wp_value hd hrun ⟨hS, h1⟩) (wp_value hd' hrun' ⟨hS2, h2⟩)
/-- An append to a row of the call's own. -/
theorem hx_append (s x : Operand) (t : TypeId) (base : Nat) (e : TypeId) (ii : TypeInfo) (z : Value) (size bytes : Nat) (v : Value) (n : Nat) (xs : List Value) (B : Nat) (A : Option Addr) (m c : Nat) (news : List Value)
    (hi : ops[i]? = some oi) (hd : oi.dst = some d) (hr : Region.ready md ops listed = [i]) (hw : Region.wanted oi (yielded ops L.toArray) = true)
    (ho : oi.op = .call { callee := .builtin .append, args := #[s, x], argTypes := #[t, t] }) (ht : P.underlying t = some (.slice e)) (hii : P.info? e = some ii) (hz : ii.zero = some z)
    (hsize : ii.size = size) (hby : ii.bytes = bytes) (hzs : z.cells.size = size) (hsz : 0 < size)
    (hs : Act.eval ⟨L.toArray, ds⟩ s = v) (hown : w.ownsRow base e size v n xs)
    (hx : Act.eval ⟨L.toArray, ds⟩ x = .slice A m c) (hrd : Reads w B size A m news) (h1 : ∀ u ∈ news, u.oneCell' = true)
    (h63 : n + m ≤ maxLen) (hbytes : (n + m) * bytes ≤ 140737488355328) (hbase : base ≤ w.heap.size)
    (h : ∀ v' w', w'.ownsRow base e size v' (n + m) (xs ++ news) → w.grownBy w' v.ownBlock → (v'.ownBlock = v.ownBlock ∨ v'.ownBlock = some w.heap.size) → S w' ∧ wpAnyH P md ops Q S fuel (listed.setIfInBounds i true) ⟨(L.set d v').toArray, ds⟩ w') : wpAnyH P md ops Q S (fuel + 1) listed ⟨L.toArray, ds⟩ w :=
  hx_step hi hr hw (wp_append_any w s x t ho base e ii z size bytes ht hii hz hsize hby hzs hsz v n xs hs hown B A m c news hx hrd h1 h63 hbytes hbase fun v' w' a b c => by
    rw [hd, put_list]
    exact h v' w' a b c)
end
end Go.Proofs.YtpkggopaigledaaDoor
