/- The reference of layer 9: tokens, All, Each. -/
import Derived.Test.YtfbkddpapjpgbaaRef09B
namespace Go.Proofs.Ytfbkddpapjpgbaa
open Go.RowKit

theorem own_sinceX {w w' : World} {base : Nat} {e : TypeId} {size : Nat} {v : Value} {n : Nat} {xs : List Value} (h : w.ownsRow base e size v n xs) (hs : Since w w') : w'.ownsRow base e size v n xs :=
  h.kept (row := none) ⟨hs.os, hs.tape, hs.output, hs.size, fun k hk _ => hs.block k hk⟩ (by
    cases hv : v.ownBlock with
    | none => exact .inl rfl
    | some g => exact .inr (by simp))
theorem st_new (w : World) (x : Item) (ty : TypeId) : ∀ j u, (stL x)[j]? = some u → (w.alloc (.cells #[.int .i64 x.1.1, .string ⟨x.1.2.1.toArray⟩, .int .i64 (x.1.2.2 : Int), .int .i64 x.2] ty)).cell? ((⟨w.heap.size, 0, none⟩ : Addr).add j) = some u := by
  intro j u h
  have h1 : (⟨w.heap.size, 0, none⟩ : Addr).add j = ⟨w.heap.size, j, none⟩ := by unfold Addr.add; split <;> simp_all
  rw [h1, World.cell?_alloc_new]
  simpa [stL] using h
theorem st_one (x : Item) : ∀ u ∈ stL x, u.oneCell' = true := by
  intro u hu
  simp only [stL, List.mem_cons, List.not_mem_nil, or_false] at hu
  rcases hu with rfl | rfl | rfl | rfl <;> rfl
/-- The place and the error, as numbers. -/
def plO : Option (Nat × Int) → Int × Int
  | none => (0, 0)
  | some (a, x) => ((a : Int), x)
def plE (s : List UInt8) : Int × Int := plO (toksL s).2
/-- The last item, if the tokens broke off. -/
def lastI : Option (Nat × Int) → List Item
  | none => []
  | some (_, x) => [(noTk, x)]
def RtksPost (s : List UInt8) (w : World) (e : Ending) (w' : World) : Prop :=
  ∃ v, e = .returned (.tuple #[v, .int .i64 (plE s).1, .int .i64 (plE s).2]) ∧ w'.ownsRow w.heap.size 25 3 v (toksL s).1.length ((toksL s).1.flatMap tkL) ∧ Since w w'
theorem err_ne {s : List UInt8} {acc : List Tk} {a : Nat} {x : Int} (h : toksL s = (acc, some (a, x))) : x ≠ 0 :=
  (toksF_err (s.length + 1) s 0 a x (by rw [show toksF (s.length + 1) s 0 = toksL s from rfl, h])).2
set_option maxHeartbeats 8000000 in
set_option maxRecDepth 100000 in
theorem rtokens_any (s : List UInt8) (w : World) (hs : s.length ≤ 65536) : Calls Try.prog 29 #[.string ⟨s.toArray⟩] w (RtksPost s w) := by
  obtain ⟨i0, hi, hz0, hz1, hz2⟩ := info_parts infoTk
  have HI0 := Lib.hid (And.intro hi (And.intro hz0 (And.intro hz1 hz2)))
  clear hi hz0 hz1 hz2
  have g : ¬ (65536 : Int) < (s.length : Int) := by omega
  have hP : ∀ (W : World) (v : Value) (acc : List Tk), toksL s = (acc, none) → W.ownsRow w.heap.size 25 3 v acc.length (acc.flatMap tkL) → Since w W → RtksPost s w (.returned (.tuple #[v, .int .i64 0, .int .i64 0])) W := by
    intro W v acc h ho hS
    refine ⟨v, ?_, ?_, hS⟩
    · rw [plE, h]; rfl
    · rw [h]; exact ho
  have hP2 : ∀ (W : World) (v : Value) (acc : List Tk) (a : Nat) (x : Int), toksL s = (acc, some (a, x)) → W.ownsRow w.heap.size 25 3 v acc.length (acc.flatMap tkL) → Since w W → RtksPost s w (.returned (.tuple #[v, .int .i64 (a : Int), .int .i64 x])) W := by
    intro W v acc a x h ho hS
    refine ⟨v, ?_, ?_, hS⟩
    · rw [plE, h]; rfl
    · rw [h]; exact ho
  have HP := Lib.hid hP
  have HP2 := Lib.hid hP2
  clear hP hP2
  go_enter Try.func29, Try.ntmps29
  go_wp2_with fail
  refine (rskip_any s 0 w (by omega) hs).mono ?_
  rintro e w1 ⟨rfl, rfl⟩
  have hj0 := skipN_le false (s.drop 0)
  rw [List.length_drop] at hj0
  go_wp2_with fail
  go_loopw [5, 6] (fun v m wr => ∃ (i j : Nat) (acc : List Tk), j = i + skipN false (s.drop i) ∧ i ≤ s.length ∧ j ≤ s.length ∧ acc.length ≤ i ∧ m = .int .i64 (j : Int) ∧ wr.ownsRow w.heap.size 25 3 v acc.length (acc.flatMap tkL) ∧ Since w wr ∧ Hid (LeftL s acc i)) (fun _ m _ => s.length - (intOf m).toNat)
  case atStart => exact ⟨0, skipN false s, [], by simp, by omega, by simpa using hj0, by simp, rfl, ⟨rfl, .inl ⟨rfl, rfl⟩⟩, Since.refl _, left_0 s⟩
  case round =>
    clear hj0
    obtain ⟨i, j, acc, hj, hi, hjl, hacc, rfl, hown, hS, hleft⟩ := hrel
    have hst := left_step hi hleft.out
    have hnx : nextL s i = tokN (s.drop j) := by rw [nextL, ← hj]
    rw [← hj] at hst
    have HST := Lib.hid hst
    have HNX := Lib.hid hnx
    have HJ := Lib.hid hj
    clear hst hnx hj hleft
    by_cases hlt : j < s.length
    · have hlt2 : (j : Int) < (s.length : Int) := by omega
      go_wp2_with fail
      refine (rtoken_any s j wr hlt hs).mono ?_
      rintro e w5 ⟨hb, hpost⟩
      have hS5 : Since w w5 := hS.trans hb
      have hown5 := own_sinceX hown hb
      have hst := HST.out
      rw [HNX.out] at hst
      clear hb hown hS HST
      cases hn : tokN (s.drop j) with
      | none => rw [hn] at hpost; exact hpost.elim
      | some y =>
        cases y with
        | error x =>
          rw [hn] at hpost hst
          simp only at hpost hst
          have hx : (x != 0) = true := by simpa using err_ne hst
          subst hpost
          have HT := Lib.hid hst
          clear hst hn
          go_wp2_with fail
          go_ret3
          exact HP2.out _ _ acc j x HT.out (hown5.alloc _) (hS5.alloc _)
        | ok p =>
          obtain ⟨q, u⟩ := p
          have hu0 := (tokN_len hn).1
          rw [hn] at hpost hst
          simp only at hpost hst
          subst hpost
          obtain ⟨hl1, hl2, hl3⟩ := hst
          have HL := Lib.hid hl1
          clear hn hl1
          have hb5 : w.heap.size ≤ w5.heap.size := hS5.size
          have hvl := hown5.lt
          go_wp2_with (at_builtin; refine wpList_append_own _ rfl (.tmp 29) (.tmp 31) 26 rfl w.heap.size 25 i0 (.agg #[.int .i64 0, .string ByteArray.empty, .int .i64 0]) 3 32 Try.underlying26 HI0.out.1 HI0.out.2.1 HI0.out.2.2.1 HI0.out.2.2.2 rfl (by decide) _ acc.length (acc.flatMap tkL) rfl ((hown5.alloc _).alloc _) ⟨w5.heap.size + 1, 0, none⟩ 1 1 (tkL (q, u, j)) rfl rfl ?c0 ?c1 ?c2 ?c3 ?c4 ?_)
          case c0 => exact tk_new2 w5 _ (q, u, j) _
          case c1 => exact tk_one _
          case c2 => unfold maxLen; omega
          case c3 => omega
          case c4 => simp; omega
          intro v' w6 hown6 hgrow _
          have hB : Since w w6 := Below.grown ((hS5.alloc _).alloc _) hgrow (by simp; omega) (fun k hk => by have := own_ge hown5 k hk; omega)
          have hown7 : w6.ownsRow w.heap.size 25 3 v' (acc ++ [(q, u, j)]).length ((acc ++ [(q, u, j)]).flatMap tkL) := by
            simpa using hown6
          have htb : w6.heap[w5.heap.size]? = some (.cells #[.int .i64 q, .string ⟨u.toArray⟩, .int .i64 (j : Int)] 25 (0, 0)) := (hgrow.block w5.heap.size (by simp; omega) (fun e => Nat.lt_irrefl _ (hvl _ e.symm).2)).trans (blk_alloc (heap_alloc_new w5 _) _)
          have t1 : w6.cell? ⟨w5.heap.size, 1, none⟩ = some (.string ⟨u.toArray⟩) := cell_of_row _ _ _ _ _ _ htb
          clear hown6 hgrow hown5 hS5 htb
          have HSK := Lib.hid (rskip_any s (j + u.length) w6 hl3 hs)
          rw [show ((j + u.length : Nat) : Int) = (j : Int) + (u.length : Int) by omega] at HSK
          go_wp2_with fail
          refine HSK.out.mono ?_
          rintro e w7 ⟨rfl, rfl⟩
          have hj2 := skipN_le false (s.drop (j + u.length))
          rw [List.length_drop] at hj2
          go_wp2_with fail
          go_roundw
          case rel => exact ⟨j + u.length, j + u.length + skipN false (s.drop (j + u.length)), acc ++ [(q, u, j)], rfl, hl3, by omega, by simp; omega, rfl, hown7, hB, HL.out⟩
          case measure => simp [intOf]; omega
    · have hlt2 : ¬ (j : Int) < (s.length : Int) := by omega
      have hst := HST.out
      have hn : tokN (s.drop j) = none := by rw [List.drop_eq_nil_of_le (by omega)]; rfl
      rw [HNX.out, hn] at hst
      have HT := Lib.hid hst
      clear hst hn HST
      go_wp2_with fail
      go_ret3
      exact HP.out _ _ acc HT.out hown hS
theorem rall_any (s : List UInt8) (w : World) (hs : s.length ≤ 65536) : Calls Try.prog 16 #[.string ⟨s.toArray⟩] w (AllPost s w) := by
  have ha : allL s = match toksL s with | (l, none) => (l, 0, 0) | (_, some (a, e)) => ([], a, e) := by
    rw [allL, if_neg (by omega)]
    rcases toksL s with ⟨l, _ | ⟨a, e⟩⟩ <;> rfl
  obtain ⟨⟨L, o⟩, hL⟩ : ∃ y, Hid (y = toksL s) := ⟨toksL s, rfl⟩
  rw [← hL.out] at ha
  have HT := Lib.hid (rtokens_any s w hs)
  unfold RtksPost at HT
  obtain ⟨⟨z1, z2⟩, hz⟩ : ∃ z, Hid (z = plE s) := ⟨plE s, rfl⟩
  rw [← hz.out, ← hL.out] at HT
  simp only at HT
  have hz3 : Hid ((z1, z2) = plO o) := Lib.hid (by rw [hz.out, plE, ← hL.out])
  clear hz
  go_enter Try.func16, Try.ntmps16
  go_wp2_with fail
  refine HT.out.mono ?_
  clear HT
  rintro e w1 ⟨v, rfl, hown, hb⟩
  cases o with
  | none =>
    obtain ⟨rfl, rfl⟩ : z1 = 0 ∧ z2 = 0 := by have h := hz3.out; exact ⟨congrArg Prod.fst h, congrArg Prod.snd h⟩
    go_wp2_with fail
    go_ret3
    refine ⟨v, ?_, ?_, hb⟩
    · rw [ha]; rfl
    · rw [ha]; exact hown
  | some y =>
    obtain ⟨a, x⟩ := y
    have hx : (x != 0) = true := by simpa using err_ne hL.out.symm
    obtain ⟨rfl, rfl⟩ : z1 = (a : Int) ∧ z2 = x := by have h := hz3.out; exact ⟨congrArg Prod.fst h, congrArg Prod.snd h⟩
    go_wp2_with fail
    go_ret3
    refine ⟨.slice none 0 0, ?_, ?_, hb⟩
    · rw [ha]; rfl
    · rw [ha]; exact ⟨rfl, .inl ⟨rfl, rfl⟩⟩
set_option maxHeartbeats 4000000 in
theorem reach_any (s : List UInt8) (w : World) (hs : s.length ≤ 65536) : Calls Try.prog 18 #[.string ⟨s.toArray⟩] w fun e w' => ∃ v, e = .returned v ∧ w'.ownsRow w.heap.size 38 4 v (itemsL s).length ((itemsL s).flatMap stL) ∧ Since w w' := by
  obtain ⟨i0, hi, hz0, hz1, hz2⟩ := info_parts infoStep
  have HI0 := Lib.hid (And.intro hi (And.intro hz0 (And.intro hz1 hz2)))
  clear hi hz0 hz1 hz2
  obtain ⟨⟨L, o⟩, hL⟩ : ∃ y, Hid (y = toksL s) := ⟨toksL s, rfl⟩
  have hit : itemsL s = L.map (fun t => (t, 0)) ++ lastI o := by
    rw [itemsL, ← hL.out]
    cases o <;> rfl
  have HIT := Lib.hid hit
  clear hit
  have hlen : L.length ≤ s.length := toksL_count hL.out.symm
  have HT := Lib.hid (rtokens_any s w hs)
  unfold RtksPost at HT
  obtain ⟨⟨z1, z2⟩, hz⟩ : ∃ z, Hid (z = plE s) := ⟨plE s, rfl⟩
  rw [← hz.out, ← hL.out] at HT
  simp only at HT
  have hz3 : Hid ((z1, z2) = plO o) := Lib.hid (by rw [hz.out, plE, ← hL.out])
  clear hz
  go_enter Try.func18, Try.ntmps18
  go_wp2_with fail
  refine HT.out.mono ?_
  clear HT
  rintro e w1 ⟨v, rfl, hown, hb⟩
  obtain ⟨va, vc, rfl⟩ := own_sl hown
  have HR := Lib.hid (own_row hown)
  have hwl := hb.size
  clear hown
  go_wp2_with fail
  go_loopw [6, 7] (fun v m wr => ∃ k : Nat, k ≤ L.length ∧ m = .int .i64 (k : Int) ∧ wr.ownsRow w1.heap.size 38 4 v k (((L.take k).map fun t => ((t, 0) : Item)).flatMap stL) ∧ Since w1 wr) (fun _ m _ => L.length - (intOf m).toNat)
  case atStart => exact ⟨0, by omega, rfl, World.ownsRow_nil _ _ _ _, Since.refl _⟩
  case round =>
    obtain ⟨k, hk, rfl, hown, hS⟩ := hrel
    have hsz := hS.size
    by_cases hlt : k < L.length
    · have hlt2 : (k : Int) < (L.length : Int) := by omega
      have hlt0 : (0 : Int) ≤ (k : Int) := by omega
      obtain ⟨b, o9, c9, e9, hn9, hc9⟩ := (HR.out.next hS).some (by omega)
      cases e9
      obtain ⟨d0, d1, d2⟩ := tk_at hc9 hlt
      have htm : L.take k ++ [L[k]] = L.take (k + 1) := by rw [List.take_succ_eq_append_getElem hlt]
      obtain ⟨x, hx⟩ : ∃ x, Hid (x = L[k]) := ⟨L[k], rfl⟩
      rw [← hx.out] at d0 d1 d2 htm
      obtain ⟨q, u, a⟩ := x
      have HTM := Lib.hid htm
      simp only at d0 d1 d2
      clear hc9 htm hx
      go_wp2_with (at_builtin; refine wpList_append_own _ rfl (.tmp 20) (.tmp 26) 34 rfl w1.heap.size 38 i0 (.agg #[.int .i64 0, .string ByteArray.empty, .int .i64 0, .int .i64 0]) 4 40 Try.underlying34 HI0.out.1 HI0.out.2.1 HI0.out.2.2.1 HI0.out.2.2.2 rfl (by decide) _ k _ rfl (hown.alloc _) ⟨wr.heap.size, 0, none⟩ 1 1 (stL ((q, u, a), 0)) rfl rfl ?c0 ?c1 ?c2 ?c3 ?c4 ?_)
      case c0 => exact st_new wr ((q, u, a), 0) _
      case c1 => exact st_one _
      case c2 => unfold maxLen; omega
      case c3 => omega
      case c4 => simp; omega
      intro v' w6 hown6 hgrow _
      have hB : Since w1 w6 := Below.grown (hS.alloc _) hgrow (by simp; omega) (fun k hk => own_ge hown k hk)
      have hown7 : w6.ownsRow w1.heap.size 38 4 v' (k + 1) (((L.take (k + 1)).map fun t => ((t, 0) : Item)).flatMap stL) := by
        rw [← HTM.out, List.map_append, List.flatMap_append]
        simpa using hown6
      clear hown6 hgrow hown hS
      go_wp2_with fail
      go_roundw
      case rel => exact ⟨k + 1, by omega, by go_num, hown7, hB⟩
      case measure => simp [intOf]; omega
    · have hlt2 : ¬ (k : Int) < (L.length : Int) := by omega
      obtain rfl : k = L.length := by omega
      rw [List.take_length] at hown
      cases o with
      | none =>
        obtain ⟨rfl, rfl⟩ : z1 = 0 ∧ z2 = 0 := by have h := hz3.out; exact ⟨congrArg Prod.fst h, congrArg Prod.snd h⟩
        go_wp2_with fail
        go_ret
        refine ⟨_, rfl, ?_, hb.trans hS⟩
        rw [HIT.out]
        simp only [lastI, List.append_nil, List.length_map]
        exact own_down hown hwl
      | some y =>
        obtain ⟨a, x⟩ := y
        have hx : (x != 0) = true := by simpa using err_ne hL.out.symm
        obtain ⟨rfl, rfl⟩ : z1 = (a : Int) ∧ z2 = x := by have h := hz3.out; exact ⟨congrArg Prod.fst h, congrArg Prod.snd h⟩
        go_wp2_with (at_builtin; refine wpList_append_own _ rfl (.tmp 30) (.tmp 33) 34 rfl w1.heap.size 38 i0 (.agg #[.int .i64 0, .string ByteArray.empty, .int .i64 0, .int .i64 0]) 4 40 Try.underlying34 HI0.out.1 HI0.out.2.1 HI0.out.2.2.1 HI0.out.2.2.2 rfl (by decide) _ L.length _ rfl (hown.alloc _) ⟨wr.heap.size, 0, none⟩ 1 1 (stL (noTk, z2)) rfl rfl ?c0 ?c1 ?c2 ?c3 ?c4 ?_)
        case c0 => first | exact st_new wr (noTk, z2) _ | exact fun j u h => h
        case c1 => exact st_one _
        case c2 => unfold maxLen; omega
        case c3 => omega
        case c4 =>
          first | omega | (simp; omega)
        intro v' w6 hown6 hgrow _
        have hB : Since w1 w6 := Below.grown (hS.alloc _) hgrow (by simp; omega) (fun k hk => own_ge hown k hk)
        clear hgrow hS hown
        go_wp2_with fail
        go_ret
        refine ⟨_, rfl, ?_, hb.trans hB⟩
        rw [HIT.out]
        simp only [lastI, List.length_append, List.length_map, List.length_singleton, List.flatMap_append, List.flatMap_singleton]
        exact own_down hown6 hwl
end Go.Proofs.Ytfbkddpapjpgbaa
