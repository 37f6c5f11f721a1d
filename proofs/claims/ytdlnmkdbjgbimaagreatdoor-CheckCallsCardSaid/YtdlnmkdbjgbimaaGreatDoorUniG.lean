/- Bindings with one more (with). -/
import Derived.Test.YtdlnmkdbjgbimaaGreatDoorUniF
namespace Go.Proofs.YtdlnmkdbjgbimaaGreatDoor
open Go.RowKit

theorem step_append_any {P : Program} {w : World} {ops : Array Oper} {o : Oper} {a : Act} {K : Act → World → Prop} {Q : Exit → Act → World → Prop} {E : Prop} (hgd : o.guard = none) (s x : Operand) (t : TypeId)
    (ho : o.op = .call { callee := .builtin .append, args := #[s, x], argTypes := #[t, t] })
    (base : Nat) (e : TypeId) (i : TypeInfo) (z : Value) (size bytes : Nat) (ht : P.underlying t = some (.slice e)) (hi : P.info? e = some i) (hz : i.zero = some z)
    (hsize : i.size = size) (hby : i.bytes = bytes) (hzs : z.cells.size = size) (hsz : 0 < size)
    (v : Value) (n : Nat) (xs : List Value) (hs : a.eval s = v) (hown : w.ownsRow base e size v n xs)
    (B : Nat) (A : Option Addr) (m c : Nat) (news : List Value) (hx : a.eval x = .slice A m c) (hr : Reads w B size A m news) (h1 : ∀ u ∈ news, u.oneCell' = true)
    (h63 : n + m ≤ maxLen) (hbytes : (n + m) * bytes ≤ 140737488355328) (hbase : base ≤ w.heap.size)
    (h : ∀ v' w', w'.ownsRow base e size v' (n + m) (xs ++ news) → w.grownBy w' v.ownBlock → (v'.ownBlock = v.ownBlock ∨ v'.ownBlock = some w.heap.size) → K (a.put o.dst v') w') : if Region.wanted o (yielded ops a.tmps) = true then Oper.wp P o a w K Q else E := by
  have hw : Region.wanted o (yielded ops a.tmps) = true := by simp [Region.wanted, hgd]
  rw [if_pos hw]
  exact wp_append_any w s x t ho base e i z size bytes ht hi hz hsize hby hzs hsz v n xs hs hown B A m c news hx hr h1 h63 hbytes hbase h
def gtB (v : List UInt8) (b : Bnd) : Bool := !Op.bytesLess b.1 v && !(b.1 == v)
theorem gtB_lt (v : List UInt8) (b : Bnd) : gtB v b = decide (v < b.1) := by
  unfold gtB
  rw [less_lt, Bool.eq_iff_iff]
  simp only [Bool.and_eq_true, Bool.not_eq_true', decide_eq_false_iff_not, beq_eq_false_iff_ne, decide_eq_true_eq]
  constructor
  · intro h; exact lt_tri h.1 h.2
  · intro h; exact ⟨fun h2 => List.lt_asymm h h2, fun e => by rw [e] at h; exact List.lt_irrefl _ h⟩
theorem gtB_mono {L : List Bnd} (hr : Rises L) (v : List UInt8) : ∀ i j, (hj : j < L.length) → (h : i < j) → gtB v L[i] = true → gtB v L[j] = true := by
  intro i j hj h hi
  rw [gtB_lt] at hi ⊢
  simp only [decide_eq_true_eq] at hi ⊢
  exact List.lt_trans hi (rises_lt hr hj h)
theorem ins_cut (b : Bnd) : ∀ L : List Bnd, insB b L = L.take (fstB (gtB b.1) L) ++ ([b] ++ L.drop (fstB (gtB b.1) L))
  | [] => rfl
  | c :: l => by
    unfold insB fstB
    rw [gtB_lt]
    by_cases h : b.1 < c.1
    · rw [if_pos h, if_pos (decide_eq_true h)]; rfl
    · rw [if_neg h, if_neg (by simp [h]), ins_cut b l]; rfl
set_option maxHeartbeats 1000000 in
theorem with1_any (a : Option Addr) (c B1 B2 : Nat) (L : List Bnd) (x : Bnd) (k : Nat) (W : World) (h1 : W.cell? ⟨B1, 0, none⟩ = some (.slice a L.length c)) (h2 : W.cell? ⟨B2, 0, none⟩ = some (.string ⟨x.1.toArray⟩)) (hv : RowOf 3 bndC W (.slice a L.length c) L) (hk : k < L.length) :
    Calls Tryz.prog 100 #[.int .i64 (k : Int), .pointer (some ⟨B1, 0, none⟩), .pointer (some ⟨B2, 0, none⟩)] W fun e w' => e = .returned (.bool (gtB x.1 L[k])) ∧ Since W w' := by
  obtain ⟨b, o, he, _, hc, hat⟩ := bnd_get hv (by omega)
  cases he
  obtain ⟨d0, d1, d2⟩ := hat k hk
  have hg2 : (k : Int) < (L.length : Int) := by omega
  unfold gtB
  clear hat hv
  generalize L[k] = y at *
  obtain ⟨ys, yv, yt⟩ := y
  obtain ⟨xs, xt⟩ := x
  simp only at d0 d1 d2 h2
  go_enter Tryz.func100, Tryz.ntmps100
  go_wp2_with fail
  go_quiet (fail)
  go_wp2_with fail
  go_ret
  exact ⟨rfl, (Since.refl _).drewN _⟩
theorem flat_one : ∀ (L : List Bnd), ∀ u ∈ L.flatMap bndC, u.oneCell' = true := by
  intro L u hu
  obtain ⟨b, _, hb⟩ := List.mem_flatMap.1 hu
  exact bnd_one b u hb
set_option maxHeartbeats 4000000 in
set_option maxRecDepth 100000 in
theorem with_any (v : Value) (L : List Bnd) (xs : List UInt8) (xv : Bool) (xt : List UInt8) (w : World) (hv : RowS w v L) (hr : Rises L) (hm : L.length ≤ 1000000) :
    Calls Tryz.prog 88 #[v, .agg #[.string ⟨xs.toArray⟩, .bool xv, .string ⟨xt.toArray⟩]] w fun e w' => ∃ v', e = .returned v' ∧ RowS w' v' (insB (xs, (xv, xt)) L) ∧ Since w w' := by
  obtain ⟨i0, hi0, hz0, hz1, hz2⟩ := info_parts bndInfo
  have HI := Lib.hid (And.intro hi0 (And.intro hz0 (And.intro hz1 hz2)))
  clear hi0 hz0 hz1 hz2
  obtain ⟨r, hr0⟩ : ∃ r, Hid (r = fstB (gtB xs) L) := ⟨_, rfl⟩
  have hrl : r ≤ L.length := by rw [hr0.out]; exact fstB_le _ _
  have hcut : Hid (insB (xs, (xv, xt)) L = L.take r ++ ([(xs, (xv, xt))] ++ L.drop r)) := by
    show _ = _
    rw [ins_cut, ← hr0.out]
  have HFB := Lib.hid (fun k (hk : k < L.length) => fstB_at (L := L) (f := gtB xs) (gtB_mono hr xs) hk)
  rw [← hr0.out] at HFB
  have HV := Lib.hid hv
  rcases hv.2 with ⟨rfl, rfl⟩ | ⟨b, o, c, rfl⟩
  · obtain rfl : r = 0 := by simpa using hrl
    have hS1 : Since w ((w.alloc (.cells #[.slice none 0 0] 86)).alloc (.cells #[.string ⟨xs.toArray⟩, .bool xv, .string ⟨xt.toArray⟩] 101)) := ((Since.refl _).alloc _).alloc _
    have K1 : Hid (Cel ((w.alloc (.cells #[.slice none 0 0] 86)).alloc (.cells #[.string ⟨xs.toArray⟩, .bool xv, .string ⟨xt.toArray⟩] 101)) w.heap.size #[.slice none 0 0] 86) := Lib.hid ((show Cel (w.alloc (.cells #[.slice none 0 0] 86)) w.heap.size _ _ from heap_alloc_new w _).next ((Since.refl _).alloc _))
    have K2 : Hid (Cel ((w.alloc (.cells #[.slice none 0 0] 86)).alloc (.cells #[.string ⟨xs.toArray⟩, .bool xv, .string ⟨xt.toArray⟩] 101)) (w.heap.size + 1) #[.string ⟨xs.toArray⟩, .bool xv, .string ⟨xt.toArray⟩] 101) := by
      have h := heap_alloc_new (w.alloc (.cells #[.slice none 0 0] 86)) (.cells #[.string ⟨xs.toArray⟩, .bool xv, .string ⟨xt.toArray⟩] 101)
      rw [World.size_alloc] at h
      exact h
    have HSE : Hid (∀ W, Calls Tryz.prog 84 #[.int .i64 0, .func (.func 100) #[] #[.pointer (some ⟨w.heap.size, 0, none⟩), .pointer (some ⟨w.heap.size + 1, 0, none⟩)]] W fun e w' => e = .returned (.int .i64 0) ∧ Since W w') := by
      intro W
      exact search_with w.heap.size (w.heap.size + 1) 0 0 W (Nat.le_refl _) (by omega) (fun _ _ _ h => absurd h (Nat.not_lt_zero _))
    clear hv hr hr0
    have c1 := K1.out.one
    go_enter Tryz.func88, Tryz.ntmps88
    go_wp2_with fail
    generalize ((w.alloc (.cells #[.slice none 0 0] 86)).alloc (.cells #[.string ⟨xs.toArray⟩, .bool xv, .string ⟨xt.toArray⟩] 101)) = w1 at *
    refine (HSE.out _).mono ?_
    rintro e w3 ⟨rfl, hb⟩
    replace K1 := Lib.hid (K1.out.next hb)
    replace K2 := Lib.hid (K2.out.next hb)
    have hS := hS1.trans hb
    clear c1 hb HFB hS1 HSE
    have c1 := K1.out.one
    obtain ⟨k0, k1, k2⟩ := K2.out.three
    go_wp2_with fail
    have hS3d : Since w3 (w3.drew.alloc (.cells #[.string ⟨xs.toArray⟩, .bool xv, .string ⟨xt.toArray⟩] 101)) := ((Since.refl w3).drew).alloc _
    have c1a := (K1.out.next ((Since.refl w3).alloc (.cells #[.string ⟨xs.toArray⟩, .bool xv, .string ⟨xt.toArray⟩] 101))).one
    have hz3 : w.heap.size ≤ w3.heap.size := hS.size
    go_region_law (first
      | ((refine step_append_grows rfl (.tmp 13) (.tmp 15) 86 rfl 101 i0 (.agg #[.string ⟨#[]⟩, .bool false, .string ⟨#[]⟩]) 3 40 Tryz.underlying86 HI.out.1 HI.out.2.1 HI.out.2.2.1 HI.out.2.2.2 rfl (by decide) none 0 0 [] rfl (fun _ => ⟨rfl, rfl⟩) rfl (fun _ h => by cases h) ⟨w3.heap.size, 0, none⟩ 1 1 (bndC (xs, (xv, xt))) rfl rfl (cells_lit _ _ _ _ rfl) (bnd_one _) (by omega) (by unfold maxLen; omega) (by omega) ?_); intro v8 w8 hown8 hg8; have hS8 : Since w3 w8 := Since.trans (by first | exact hS3d | exact (Since.refl _).alloc _) (Below.grown (Since.refl _) hg8 (Nat.le_refl _) (fun k hk => by cases hk)); have c8 := (K1.out.next hS8).one; have hown8b := own_down (B' := w.heap.size) hown8 (Nat.le_trans hz3 (by first | exact hS3d.size | exact ((Since.refl w3).alloc _).size)); have hS8b := hS.trans hS8)
      | ((refine step_append_any rfl (.tmp 16) (.tmp 19) 86 rfl w.heap.size 101 i0 (.agg #[.string ⟨#[]⟩, .bool false, .string ⟨#[]⟩]) 3 40 Tryz.underlying86 HI.out.1 HI.out.2.1 HI.out.2.2.1 HI.out.2.2.2 rfl (by decide) v8 (0 + 1) ([] ++ bndC (xs, (xv, xt))) rfl hown8b w8.heap.size none 0 0 [] rfl Reads.none_ (fun _ h => by cases h) (by unfold maxLen; omega) (by omega) hS8b.size ?_); intro v9 w9 hown9 hg9 _; have hB9 : Since w w9 := Below.grown hS8b hg9 hS8b.size (fun k hk => own_ge hown8b k hk)))
    all_goals
      have e9 : ([] ++ bndC (xs, (xv, xt))) ++ [] = (insB (xs, (xv, xt)) []).flatMap bndC := rfl
      rw [e9] at hown9
      clear e9
    all_goals go_wp2_with fail
    all_goals
      go_ret
      exact ⟨_, rfl, rowS_of_own hown9 rfl, hB9⟩
  have hS1 : Since w ((w.alloc (.cells #[.slice (some ⟨b, o, none⟩) L.length c] 86)).alloc (.cells #[.string ⟨xs.toArray⟩, .bool xv, .string ⟨xt.toArray⟩] 101)) := ((Since.refl _).alloc _).alloc _
  have K1 : Hid (Cel ((w.alloc (.cells #[.slice (some ⟨b, o, none⟩) L.length c] 86)).alloc (.cells #[.string ⟨xs.toArray⟩, .bool xv, .string ⟨xt.toArray⟩] 101)) w.heap.size #[.slice (some ⟨b, o, none⟩) L.length c] 86) := Lib.hid ((show Cel (w.alloc (.cells #[.slice (some ⟨b, o, none⟩) L.length c] 86)) w.heap.size _ _ from heap_alloc_new w _).next ((Since.refl _).alloc _))
  have K2 : Hid (Cel ((w.alloc (.cells #[.slice (some ⟨b, o, none⟩) L.length c] 86)).alloc (.cells #[.string ⟨xs.toArray⟩, .bool xv, .string ⟨xt.toArray⟩] 101)) (w.heap.size + 1) #[.string ⟨xs.toArray⟩, .bool xv, .string ⟨xt.toArray⟩] 101) := by
    have h := heap_alloc_new (w.alloc (.cells #[.slice (some ⟨b, o, none⟩) L.length c] 86)) (.cells #[.string ⟨xs.toArray⟩, .bool xv, .string ⟨xt.toArray⟩] 101)
    rw [World.size_alloc] at h
    exact h
  clear hv hr hr0
  have c1 := K1.out.one
  go_enter Tryz.func88, Tryz.ntmps88
  go_wp2_with fail
  generalize (w.alloc (.cells #[.slice (some ⟨b, o, none⟩) L.length c] 86)).alloc (.cells #[.string ⟨xs.toArray⟩, .bool xv, .string ⟨xt.toArray⟩] 101) = w1 at *
  refine (search_with w.heap.size (w.heap.size + 1) L.length r _ hrl hm ?_).mono ?_
  · intro W k hW hk
    have h := with1_any (some ⟨b, o, none⟩) c w.heap.size (w.heap.size + 1) L (xs, (xv, xt)) k W (K1.out.next hW).one (K2.out.next hW).three.1 (HV.out.1.next (hS1.trans hW)) hk
    rw [HFB.out k hk] at h
    exact h
  rintro e w3 ⟨rfl, hb⟩
  replace K1 := Lib.hid (K1.out.next hb)
  replace K2 := Lib.hid (K2.out.next hb)
  have hS := hS1.trans hb
  clear c1 hb HFB hS1
  have c1 := K1.out.one
  obtain ⟨k0, k1, k2⟩ := K2.out.three
  go_wp2_with fail
  have hrow := (HV.out.1.next hS)
  have hnc : L.length ≤ c := by
    obtain ⟨a', c', h1, h2, _⟩ := hrow
    injection h1 with _ _ h3
    omega
  have hcm : c ≤ maxLen := by
    obtain ⟨a', c', h1, _, h2, _⟩ := hrow
    injection h1 with _ _ h3
    omega
  have hreads := reads_of_rowOf bndC_len hrow (by decide)
  have q1 : (r : Int) ≤ (c : Int) := by omega
  have q2 : (r : Int) ≤ (L.length : Int) := by omega
  have q3 : (L.length : Int) ≤ (c : Int) := by omega
  have q4 : (0 : Int) ≤ (r : Int) := by omega
  have HR := Lib.hid hreads
  clear hrow hreads
  have hold : Hid (∀ W, Since w3 W → ∀ j u, ((L.take r).flatMap bndC)[j]? = some u → W.cell? ((⟨b, o, none⟩ : Addr).add j) = some u) := by
    intro W hW j u hu
    obtain ⟨h1, h2⟩ := HR.out
    have hj := (List.getElem?_eq_some_iff.1 hu).1
    have hl0 : 0 < L.length := by
      rcases Nat.eq_zero_or_pos L.length with h | h
      · have : L = [] := List.eq_nil_of_length_eq_zero h
        rw [this] at hu; simp at hu
      · exact h
    obtain ⟨ad, h3, _, h4⟩ := h2 hl0
    cases h3
    refine hW.cell (h4 j u ?_)
    have e : L.flatMap bndC = (L.take r).flatMap bndC ++ (L.drop r).flatMap bndC := by rw [← List.flatMap_append, List.take_append_drop]
    rw [e, List.getElem?_append_left hj]
    exact hu
  have hread : Hid (∀ W, Since w3 W → Reads W W.heap.size 3 (if c = r then some ⟨b, o, none⟩ else some ⟨b, o + r * 3, none⟩) (L.length - r) ((L.drop r).flatMap bndC)) := by
    intro W hW
    have h := (HR.out.cut hrl hnc).below (Below.mono hW (Nat.le_refl _)) |>.more hW.size
    have e : (L.flatMap bndC).drop (r * 3) = (L.drop r).flatMap bndC := by
      have e2 : L.flatMap bndC = (L.take r).flatMap bndC ++ (L.drop r).flatMap bndC := by rw [← List.flatMap_append, List.take_append_drop]
      rw [e2, List.drop_left' (by rw [flat_len bndC_len, List.length_take, Nat.min_eq_left hrl])]
    rw [e] at h
    simpa only [Option.map_some, add_form] using h
  have hlen : Hid (((L.take r).flatMap bndC).length = r * 3) := by
    show _ = _
    rw [flat_len bndC_len, List.length_take, Nat.min_eq_left hrl]
  have hS3d : Since w3 (w3.drew.alloc (.cells #[.string ⟨xs.toArray⟩, .bool xv, .string ⟨xt.toArray⟩] 101)) := ((Since.refl w3).drew).alloc _
  have c1a := (K1.out.next ((Since.refl w3).alloc (.cells #[.string ⟨xs.toArray⟩, .bool xv, .string ⟨xt.toArray⟩] 101))).one
  have hz3 : w.heap.size ≤ w3.heap.size := hS.size
  go_region_law (first
    | ((refine step_append_grows rfl (.tmp 13) (.tmp 15) 86 rfl 101 i0 (.agg #[.string ⟨#[]⟩, .bool false, .string ⟨#[]⟩]) 3 40 Tryz.underlying86 HI.out.1 HI.out.2.1 HI.out.2.2.1 HI.out.2.2.2 rfl (by decide) (some ⟨b, o, none⟩) r r ((L.take r).flatMap bndC) rfl (by simp) hlen.out (by intro b1 h1; cases h1; exact hold.out _ (by first | exact hS3d | exact (Since.refl _).alloc _)) ⟨w3.heap.size, 0, none⟩ 1 1 (bndC (xs, (xv, xt))) rfl rfl (cells_lit _ _ _ _ rfl) (bnd_one _) (by omega) (by unfold maxLen; omega) (by omega) ?_); intro v8 w8 hown8 hg8; have hS8 : Since w3 w8 := Since.trans (by first | exact hS3d | exact (Since.refl _).alloc _) (Below.grown (Since.refl _) hg8 (Nat.le_refl _) (fun k hk => by cases hk)); have c8 := (K1.out.next hS8).one; have hown8b := own_down (B' := w.heap.size) hown8 (Nat.le_trans hz3 (by first | exact hS3d.size | exact ((Since.refl w3).alloc _).size)); have hS8b := hS.trans hS8)
    | ((refine step_append_any rfl (.tmp 16) (.tmp 19) 86 rfl w.heap.size 101 i0 (.agg #[.string ⟨#[]⟩, .bool false, .string ⟨#[]⟩]) 3 40 Tryz.underlying86 HI.out.1 HI.out.2.1 HI.out.2.2.1 HI.out.2.2.2 rfl (by decide) v8 (r + 1) ((L.take r).flatMap bndC ++ bndC (xs, (xv, xt))) rfl hown8b w8.heap.size (if c = r then some ⟨b, o, none⟩ else some ⟨b, o + r * 3, none⟩) (L.length - r) (c - r) ((L.drop r).flatMap bndC) rfl (hread.out _ hS8) (flat_one _) (by unfold maxLen; omega) (by omega) hS8b.size ?_); intro v9 w9 hown9 hg9 _; have hB9 : Since w w9 := Below.grown hS8b hg9 hS8b.size (fun k hk => own_ge hown8b k hk)))
  all_goals
    have e9 : (L.take r).flatMap bndC ++ bndC (xs, (xv, xt)) ++ (L.drop r).flatMap bndC = (insB (xs, (xv, xt)) L).flatMap bndC := by
      rw [hcut.out, List.flatMap_append, List.flatMap_append]; simp
    rw [e9] at hown9
    clear e9
  all_goals go_wp2_with fail
  all_goals
    go_ret
    refine ⟨_, rfl, rowS_of_own hown9 ?_, hB9⟩
    rw [hcut.out]; simp; omega
end Go.Proofs.YtdlnmkdbjgbimaaGreatDoor
