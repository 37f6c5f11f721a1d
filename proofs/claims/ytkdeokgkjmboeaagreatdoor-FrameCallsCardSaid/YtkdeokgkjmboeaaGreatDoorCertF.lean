/- The reader's atom: the block that it fills. -/
import Derived.Test.YtkdeokgkjmboeaaGreatDoorCertD
namespace Go.Proofs.YtkdeokgkjmboeaaGreatDoor
open Go.RowKit

def BlkA (W : World) (B : Nat) (a : Atm) : Prop := W.heap[B]? = some (.cells (atmC a) 26 (0, 0))
section
variable {W W' : World} {B g : Nat} {a : Atm}
theorem BlkA.box (h : BlkA W B a) : Box W B a := by
  intro j hj
  unfold BlkA at h
  simp [World.cell?, h, hj]
theorem BlkA.free (h : BlkA W B a) (j : Nat) : W.frozen? ⟨B, j, none⟩ = false := by
  unfold BlkA at h; simp [World.frozen?, h]
theorem BlkA.lt (h : BlkA W B a) : B < W.heap.size := (Array.getElem?_eq_some_iff.1 h).1
theorem BlkA.grown {row : Option Nat} (h : BlkA W B a) (hg : W.grownBy W' row) (hr : some B ≠ row) : BlkA W' B a := (hg.block B h.lt hr).trans h
theorem BlkA.next (h : BlkA W B a) (hs : Since W W') : BlkA W' B a := (Below.block hs B h.lt).trans h
theorem BlkA.far (h : BlkA W B a) {p : Addr} (hp : B ≠ p.block) (v : Value) : BlkA (W.setCell p v) B a := (Below.heap_setCell W p v B hp).trans h
theorem BlkA.set (h : BlkA W B a) {j : Nat} {v : Value} {a' : Atm} (he : (atmC a).setIfInBounds j v = atmC a') : BlkA (W.setCell ⟨B, j, none⟩ v) B a' := by
  unfold BlkA at h ⊢
  rw [setCell_eq_setRow W B j _ _ (0, 0) _ h, setRow_heap W B _ _ _ (0, 0) h, he]
theorem Rdr.far {T : TypeId} {s : List UInt8} {i : Nat} {bad : Bool} (h : Rdr W g T s i bad) {p : Addr} (hp : g ≠ p.block) (v : Value) : Rdr (W.setCell p v) g T s i bad := (Below.heap_setCell W p v g hp).trans h
theorem gfar {w : World} (h : w.grownBy W (some g)) {p : Addr} (hp : w.heap.size ≤ p.block) (v : Value) : w.grownBy (W.setCell p v) (some g) :=
  ⟨h.os, h.tape, h.output, by simpa using h.size, fun k hk hne => (Below.heap_setCell W p v k (by omega)).trans (h.block k hk hne)⟩
end
theorem ainfoA : (Tryz.prog.info? 26).map (·.size) = some 11 := by kernel_rfl
theorem pad_n (u p : List UInt8) (n : Nat) (L : List Tm) : (atmC (padM u p 0 L)).setIfInBounds 2 (.int .i64 (n : Int)) = atmC (padM u p n L) := rfl
theorem atm_one (a : Atm) : (atmC a).all (·.oneCell') = true := by simp [atmC, Value.oneCell']
theorem grow_row {w W : World} {g B : Nat} (h : w.grownBy W (some g)) (hB : w.heap.size ≤ B) (cs : Array Value) : w.grownBy (W.setRow B cs) (some g) :=
  ⟨h.os, h.tape, h.output, by simpa using h.size, fun k hk hne => (setRow_other W B k cs (by omega)).trans (h.block k hk hne)⟩
theorem Rdr.row {W : World} {g B : Nat} {T : TypeId} {s : List UInt8} {i : Nat} {bad : Bool} (h : Rdr W g T s i bad) (hB : g ≠ B) (cs : Array Value) : Rdr (W.setRow B cs) g T s i bad := (setRow_other W B g cs hB).trans h
theorem BlkA.row {W : World} {B : Nat} {a : Atm} (h : BlkA W B a) (a' : Atm) : BlkA (W.setRow B (atmC a')) B a' := setRow_heap W B _ _ _ (0, 0) h
theorem pad_v {u p : List UInt8} {n : Int} {L : List Tm} {k : Nat} (hk : L.length = k) (h4 : k < 4) (v : Bool) : (atmC (padM u p n L)).setIfInBounds (3 + k * 2) (.bool v) = atmC (padM u p n (L ++ [(v, [])])) := by
  subst hk
  match L, h4 with
  | [], _ => rfl
  | [_], _ => rfl
  | [_, _], _ => rfl
  | [_, _, _], _ => rfl
theorem pad_t {u p : List UInt8} {n : Int} {L : List Tm} {k : Nat} (hk : L.length = k) (h4 : k < 4) (v : Bool) (t : List UInt8) : (atmC (padM u p n (L ++ [(v, [])]))).setIfInBounds (3 + k * 2 + 1) (.string ⟨t.toArray⟩) = atmC (padM u p n (L ++ [(v, t)])) := by
  subst hk
  match L, h4 with
  | [], _ => rfl
  | [_], _ => rfl
  | [_, _], _ => rfl
  | [_, _, _], _ => rfl
theorem textS_len (s : List UInt8) (i : Nat) (bad : Bool) : (textS s i bad).1.length ≤ s.length := by
  unfold textS
  simp only
  split
  · simp
  · split
    · simp
    · simp only [List.length_take, List.length_drop]; omega
def RAtomPost (s : List UInt8) (i : Nat) (bad : Bool) (g : Nat) (T : TypeId) (w : World) (e : Ending) (w' : World) : Prop :=
  e = .returned (.agg (atmC (atomS s i bad).1)) ∧ Rdr w' g T s (atomS s i bad).2.1 (atomS s i bad).2.2 ∧ w.grownBy w' (some g)
theorem since_far {w0 w w' : World} {g : Nat} (h : Since w0 w) (hg : w.grownBy w' (some g)) (h0 : w0.heap.size ≤ g) : Since w0 w' :=
  Below.grown h hg h.size fun k hk => by injection hk with hk; omega

set_option maxHeartbeats 4000000 in
set_option maxRecDepth 100000 in
theorem ratom_any (w0 : World) (s : List UInt8) (i : Nat) (bad : Bool) (g : Nat) (T : TypeId) (w : World) (hs : s.length ≤ 1000000) (hi : i ≤ s.length) (hR : Rdr w g T s i bad) (hE : Env w0) (hS : Since w0 w) (hg0 : w0.heap.size ≤ g) :
    Calls Tryz.prog 69 #[.pointer (some ⟨g, 0, none⟩)] w (RAtomPost s i bad g T w) := by
  have HT1 := Lib.hid (fun W h => ctext_any s i bad g T W hs hi h)
  have l1 := textS_le (bad := bad) hi
  obtain ⟨U, hU⟩ : ∃ U, Hid (U = textS s i bad) := ⟨_, rfl⟩
  unfold TextPost at HT1
  have lu := textS_len s i bad
  rw [← hU.out] at HT1 l1 lu
  obtain ⟨u, i1, b1⟩ := U
  simp only at HT1 l1 lu
  have HT2 := Lib.hid (fun W h => ctext_any s i1 b1 g T W hs l1 h)
  have l2 := textS_le (bad := b1) l1
  obtain ⟨V, hV⟩ : ∃ V, Hid (V = textS s i1 b1) := ⟨_, rfl⟩
  unfold TextPost at HT2
  have lp := textS_len s i1 b1
  rw [← hV.out] at HT2 l2 lp
  obtain ⟨p, i2, b2⟩ := V
  simp only at HT2 l2 lp
  have HN3 := Lib.hid (fun W h => cnum_any s i2 b2 g T W hs l2 h)
  have l3 := (numS_le (bad := b2) l2).2
  have n3 := (numS_le (bad := b2) l2).1
  obtain ⟨M, hM⟩ : ∃ M, Hid (M = numS s i2 b2) := ⟨_, rfl⟩
  unfold NumPost at HN3
  rw [← hM.out] at HN3 l3 n3
  obtain ⟨n, i3, b3⟩ := M
  simp only at HN3 l3 n3
  obtain ⟨R, hR0⟩ : ∃ R, Hid (R = namesS s n i3 (b3 || decide (4 < n))) := ⟨_, rfl⟩
  have hA : Hid (atomS s i bad = if R.2.2 || (checkA (padM u p n R.1) != 0) then (zeroAtm, R.2.1, true) else (padM u p n R.1, R.2.1, false)) := by
    show _ = _
    unfold atomS
    rw [← hU.out]
    simp only
    rw [← hV.out]
    simp only
    rw [← hM.out]
    simp only
    rw [← hR0.out]
  have hne : w.heap.size ≠ g := by have := hR.lt; omega
  have hR1 : Rdr (w.alloc (.cells (atmC zeroAtm) 26)) g T s i bad := hR.next ((Since.refl _).alloc _)
  have hB1 : BlkA (w.alloc (.cells (atmC zeroAtm) 26)) w.heap.size zeroAtm := by
    unfold BlkA
    exact heap_alloc_new w _
  have hg1 : w.grownBy (w.alloc (.cells (atmC zeroAtm) 26)) (some g) := gsince (World.grownBy.refl _ _) ((Since.refl _).alloc _)
  have hB1d : BlkA (w.alloc (.cells (atmC zeroAtm) 26)).drew w.heap.size zeroAtm := hB1
  have hR1d : Rdr (w.alloc (.cells (atmC zeroAtm) 26)).drew g T s i bad := hR1
  have hsn : some w.heap.size ≠ some g := fun e => hne (by injection e)
  clear hU hV hM hR
  go_enter Tryz.func69, Tryz.ntmps69
  go_wp2_with fail
  go_region_with (first
    | (go_at_call 87; first
      | ((with_reducible refine Calls.mono (HT1.out _ ?_) ?_); (first | exact hR1 | exact hR1d); rintro e w2 ⟨rfl, hR2, hg2⟩; have hB2 : BlkA w2 w.heap.size zeroAtm := BlkA.grown hB1d hg2 hsn)
      | ((with_reducible refine Calls.mono (HT2.out _ ?_) ?_); exact hR2; rintro e w3 ⟨rfl, hR3, hg3⟩; have hB3 : BlkA w3 w.heap.size zeroAtm := BlkA.grown hB2 hg3 hsn; have hlt3 := hB3.lt; have hfr3 := hB3.free; obtain ⟨z0, z1, z2, z3, z4, z5, z6, z7, z8, z9, z10⟩ := hB3.box.all)))
  have hB4 : BlkA ((w3.setCell ⟨w.heap.size, 0, none⟩ (.string ⟨u.toArray⟩)).setCell ⟨w.heap.size, 1, none⟩ (.string ⟨p.toArray⟩)) w.heap.size (padM u p 0 []) := BlkA.set (BlkA.set (a' := (u, [], 0, (false, []), (false, []), (false, []), (false, []))) hB3 rfl) rfl
  have hR4 : Rdr ((w3.setCell ⟨w.heap.size, 0, none⟩ (.string ⟨u.toArray⟩)).setCell ⟨w.heap.size, 1, none⟩ (.string ⟨p.toArray⟩)) g T s i2 b2 := (hR3.far (fun e => hne e.symm) _).far (fun e => hne e.symm) _
  have hg4 : w.grownBy ((w3.setCell ⟨w.heap.size, 0, none⟩ (.string ⟨u.toArray⟩)).setCell ⟨w.heap.size, 1, none⟩ (.string ⟨p.toArray⟩)) (some g) := gfar (gfar (gtrans (gtrans (gdrew hg1) hg2) hg3) (Nat.le_refl _) _) (Nat.le_refl _) _
  clear hR1 hR1d hR2 hR3 hB1 hB1d hB2 hB3 hg1 hg2 hg3 hlt3 hfr3 z0 z1 z2 z3 z4 z5 z6 z7 z8 z9 z10
  generalize (w3.setCell ⟨w.heap.size, 0, none⟩ (.string ⟨u.toArray⟩)).setCell ⟨w.heap.size, 1, none⟩ (.string ⟨p.toArray⟩) = w4 at *
  go_wp2_with fail
  refine (HN3.out _ hR4).mono ?_
  rintro e w5 ⟨rfl, hR5, hg5⟩
  have hB5 := hB4.grown hg5 hsn
  replace hg5 := gtrans hg4 hg5
  have c2 := hR5.c2
  have hlt5 := hR5.lt
  have hfr5 := hR5.free
  clear hR4 hg4 hB4
  obtain ⟨b, hb⟩ : ∃ b, Hid (b = (b3 || decide (4 < n))) := ⟨_, rfl⟩
  have en : IntKind.i64.wrap (n : Int) = (n : Int) := IntWalk.i64_in _ (by omega)
  have HW : Hid (∃ w6, Rdr w6 g T s i3 b ∧ BlkA w6 w.heap.size (padM u p 0 []) ∧ w.grownBy w6 (some g) ∧ w6 = if decide (4 < n) then w5.setCell ⟨g, 2, none⟩ (.bool true) else w5) := by
    cases h4 : decide (4 < n)
    · refine ⟨w5, ?_, hB5, hg5, by simp⟩
      rw [hb.out, h4, Bool.or_false]; exact hR5
    · refine ⟨w5.setCell ⟨g, 2, none⟩ (.bool true), ?_, hB5.far hne _, gset hg5 _ _, by simp⟩
      rw [hb.out, h4, Bool.or_true]; exact hR5.set2 true
  have hbn : b = false → n ≤ 4 := by
    intro h
    rw [hb.out, Bool.or_eq_false_iff, decide_eq_false_iff_not] at h
    omega
  rw [← hb.out] at hR0
  have hRR : Hid (R = (([] : List Tm) ++ (namesS s (n - 0) i3 b).1, (namesS s (n - 0) i3 b).2)) := hR0.out
  have hdd : Hid (decide (4 < n) = decide ((4 : Int) < (n : Int))) := by
    show _ = _
    rw [Bool.eq_iff_iff, decide_eq_true_eq, decide_eq_true_eq]
    constructor <;> intro h <;> omega
  cases h4 : decide ((4 : Int) < (n : Int))
  all_goals
    obtain ⟨w6, hR6, hB6, hg6, hw6⟩ := HW.out
    rw [hdd.out, h4] at hw6
    simp only [Bool.false_eq_true, if_false, if_true] at hw6
    clear HW hdd hb hR0
    go_wp2_with fail
    rw [← hw6]
    clear hw6 c2 hlt5 hfr5 hR5 hB5 hg5
    go_loopw [4] (fun x wr => ∃ (k : Nat) (L : List Tm) (j : Nat) (bb : Bool), k ≤ n ∧ L.length = k ∧ x = .int .i64 k ∧ j ≤ s.length ∧ (bb = false → n ≤ 4) ∧ Rdr wr g T s j bb ∧ BlkA wr w.heap.size (padM u p 0 L) ∧ w.grownBy wr (some g) ∧ Hid (∀ x ∈ L, x.2.length ≤ s.length) ∧ Hid (R = (L ++ (namesS s (n - k) j bb).1, (namesS s (n - k) j bb).2))) (fun x _ => n - (intOf x).toNat)
    case atStart => exact ⟨0, [], i3, b, by omega, rfl, rfl, l3, hbn, hR6, hB6, hg6, (fun x hx => by simp at hx), hRR.out⟩
    case round =>
      clear hR6 hB6 hg6 hRR hbn
      obtain ⟨k, L, j, bb, hk, hLk, rfl, hj, hbb, hRj, hBj, hgj, hLl, hres⟩ := hrel
      have c2 := hRj.c2
      have HLK := Lib.hid hLk
      clear hLk
      by_cases hlt : (k : Int) < (n : Int)
      · cases bb
        · have hk4 : k < 4 := by have := hbb rfl; omega
          have hk4i : (k : Int) < 4 := by omega
          obtain ⟨F, hF⟩ : ∃ F, Hid (F = flagS s j false) := ⟨_, rfl⟩
          have HFL := Lib.hid (cflag_any s j false g T wr hs hj hRj)
          have lf := flagS_le (bad := false) hj
          unfold FlagPost at HFL
          rw [← hF.out] at HFL lf
          obtain ⟨fv, j1, bf⟩ := F
          simp only at HFL lf
          obtain ⟨X, hX⟩ : ∃ X, Hid (X = textS s j1 bf) := ⟨_, rfl⟩
          have HTX := Lib.hid (fun W h => ctext_any s j1 bf g T W hs lf h)
          have lt2 := textS_le (bad := bf) lf
          unfold TextPost at HTX
          have lx := textS_len s j1 bf
          rw [← hX.out] at HTX lt2 lx
          obtain ⟨t, j2, bt⟩ := X
          simp only at HTX lt2 lx
          have hLl2 : Hid (∀ x ∈ L ++ [(fv, t)], x.2.length ≤ s.length) := by
            intro x hx
            rcases List.mem_append.1 hx with h | h
            · exact hLl.out x h
            · simp only [List.mem_cons, List.not_mem_nil, or_false] at h
              rw [h]; exact lx
          have hres2 : Hid (R = ((L ++ [(fv, t)]) ++ (namesS s (n - (k + 1)) j2 bt).1, (namesS s (n - (k + 1)) j2 bt).2)) := by
            have hnn : n - k = (n - (k + 1)) + 1 := by omega
            have h := hres.out
            rw [hnn, namesS, if_neg (by simp)] at h
            simp only at h
            rw [← hF.out] at h
            simp only at h
            rw [← hX.out] at h
            show _ = _
            rw [h]; simp
          have hbb2 : n ≤ 4 := hbb rfl
          clear hres hF hX hbb
          go_wp2_with fail
          refine HFL.out.mono ?_
          rintro e w7 ⟨rfl, hR7, hg7⟩
          have hB7 := hBj.grown hg7 hsn
          have hgg := gtrans hgj hg7
          have hlt7 := hB7.lt
          have hfr7 := hB7.free
          obtain ⟨ca, cb⟩ := hB7.box.args.2 k hk4
          go_wp2_with fail
          refine (HTX.out _ (hR7.far (fun e => hne e.symm) _)).mono ?_
          rintro e w8 ⟨rfl, hR8, hg8⟩
          have hB8 := (BlkA.set (j := 3 + k * 2) (v := .bool fv) hB7 (pad_v HLK.out hk4 fv)).grown hg8 hsn
          have hgg8 := gtrans (gfar hgg (Nat.le_refl _) _) hg8
          have hlt8 := hB8.lt
          have hfr8 := hB8.free
          obtain ⟨_, cb8⟩ := hB8.box.args.2 k hk4
          clear ca cb hlt7 hfr7
          go_wp2_with fail
          go_roundw
          case rel => exact ⟨k + 1, L ++ [(fv, t)], j2, bt, by omega, by simp [HLK.out], by go_num, lt2, fun _ => hbb2, hR8.far (fun e => hne e.symm) _, hB8.set (pad_t HLK.out hk4 fv t), gfar hgg8 (Nat.le_refl _) _, hLl2.out, hres2.out⟩
          case measure => simp [intOf]; omega
        · have hRE : Hid (R = (L, j, true)) := by
            show _ = _
            rw [hres.out, namesS_bad]; simp
          have HB2 : BlkA (wr.setCell ⟨w.heap.size, 2, none⟩ (.int .i64 (n : Int))) w.heap.size (padM u p n L) := hBj.set (pad_n u p n L)
          have HR2 : Rdr (wr.setCell ⟨w.heap.size, 2, none⟩ (.int .i64 (n : Int))) g T s j true := hRj.far (fun e => hne e.symm) _
          have hg2 : w.grownBy (wr.setCell ⟨w.heap.size, 2, none⟩ (.int .i64 (n : Int))) (some g) := gfar hgj (Nat.le_refl _) _
          have HP : Hid (∀ W, Rdr W g T s j true → w.grownBy W (some g) → RAtomPost s i bad g T w (.returned (.agg (atmC zeroAtm))) W) := by
            intro W h1 h2
            unfold RAtomPost
            rw [hA.out, hRE.out, if_pos (by simp)]; exact ⟨rfl, h1, h2⟩
          obtain ⟨_, _, z2, _, _, _, _, _, _, _, _⟩ := hBj.box.all
          have hlB := hBj.lt
          have hfB := hBj.free
          have hlg := hRj.lt
          have hfg := hRj.free
          clear hres hA hRE
          have HBLK : ((wr.setCell ⟨w.heap.size, 2, none⟩ (.int .i64 (n : Int))).setCell ⟨g, 2, none⟩ (.bool true)).heap[w.heap.size]? = some (.cells (atmC (padM u p n L)) 26 (0, 0)) := HB2.far hne (.bool true)
          have HBK := Lib.hid HBLK
          have hone : Hid ((#[.string ⟨#[]⟩, .string ⟨#[]⟩, .int .i64 0, .bool false, .string ⟨#[]⟩, .bool false, .string ⟨#[]⟩, .bool false, .string ⟨#[]⟩, .bool false, .string ⟨#[]⟩] : Array Value).all (·.oneCell') = true) := by show _ = _; simp [Value.oneCell']
          clear HBLK HB2
          go_wp2_with (refine wpList_store_row rfl 26 (.tmp 2) (.tmp 77) rfl w.heap.size #[.string ⟨#[]⟩, .string ⟨#[]⟩, .int .i64 0, .bool false, .string ⟨#[]⟩, .bool false, .string ⟨#[]⟩, .bool false, .string ⟨#[]⟩, .bool false, .string ⟨#[]⟩] rfl rfl 26 (atmC (padM u p n L)) HBK.out ainfoA rfl hone.out ?_)
          have hbx : Box (((wr.setCell ⟨w.heap.size, 2, none⟩ (.int .i64 (n : Int))).setCell ⟨g, 2, none⟩ (.bool true)).setRow w.heap.size #[.string ⟨#[]⟩, .string ⟨#[]⟩, .int .i64 0, .bool false, .string ⟨#[]⟩, .bool false, .string ⟨#[]⟩, .bool false, .string ⟨#[]⟩, .bool false, .string ⟨#[]⟩]) w.heap.size zeroAtm := (BlkA.row (a := padM u p n L) HBK.out zeroAtm).box
          obtain ⟨e0, e1, e2, e3, e4, e5, e6, e7, e8, e9, e10⟩ := hbx.all
          refine bodyPost_ret (v := .agg #[.string ⟨#[]⟩, .string ⟨#[]⟩, .int .i64 0, .bool false, .string ⟨#[]⟩, .bool false, .string ⟨#[]⟩, .bool false, .string ⟨#[]⟩, .bool false, .string ⟨#[]⟩]) (by simp [results, Tryz.results69, go_sem, e0, e1, e2, e3, e4, e5, e6, e7, e8, e9, e10, zeroAtm]) rfl ?_
          exact HP.out _ ((HR2.set2 true).row (fun e => hne e.symm) _) (grow_row (gset hg2 _ _) (Nat.le_refl _) _)
      · have hkn : k = n := by omega
        have hRE : Hid (R = (L, j, bb)) := by
          show _ = _
          rw [hres.out, show n - k = 0 by omega, namesS]; simp
        cases bb
        · obtain ⟨t0, ht0⟩ : ∃ t, Hid (t = L.getD 0 (false, [])) := ⟨_, rfl⟩
          obtain ⟨t1, ht1⟩ : ∃ t, Hid (t = L.getD 1 (false, [])) := ⟨_, rfl⟩
          obtain ⟨t2, ht2⟩ : ∃ t, Hid (t = L.getD 2 (false, [])) := ⟨_, rfl⟩
          obtain ⟨t3, ht3⟩ : ∃ t, Hid (t = L.getD 3 (false, [])) := ⟨_, rfl⟩
          have hpad : ∀ m : Int, padM u p m L = (u, p, m, t0, t1, t2, t3) := by
            intro m
            rw [padM, ← ht0.out, ← ht1.out, ← ht2.out, ← ht3.out]
          have hnl : ∀ q, (L.getD q (false, [])).2.length ≤ s.length := by
            intro q
            rw [List.getD_eq_getElem?_getD]
            cases hq : L[q]? with
            | none => simp
            | some x => exact hLl.out x (List.mem_of_getElem? hq)
          have y0 := hnl 0
          have y1 := hnl 1
          have y2 := hnl 2
          have y3 := hnl 3
          rw [← ht0.out] at y0
          rw [← ht1.out] at y1
          rw [← ht2.out] at y2
          rw [← ht3.out] at y3
          have HA2 : Hid (atomS s i bad = if (checkA (u, p, (n : Int), t0, t1, t2, t3) != 0) then (zeroAtm, j, true) else ((u, p, (n : Int), t0, t1, t2, t3), j, false)) := by
            show _ = _
            rw [hA.out, hRE.out, hpad]; rfl
          rw [hpad] at hBj
          obtain ⟨v0, m0⟩ := t0
          obtain ⟨v1, m1⟩ := t1
          obtain ⟨v2, m2⟩ := t2
          obtain ⟨v3, m3⟩ := t3
          simp only at y0 y1 y2 y3
          have hFt : FitsA ((u, p, (n : Int), (v0, m0), (v1, m1), (v2, m2), (v3, m3)) : Atm) := by
            refine ⟨by show u.length ≤ maxLen; unfold maxLen; omega, by show p.length ≤ maxLen; unfold maxLen; omega, fun x hx => ?_⟩
            have hx' : x ∈ [(v0, m0), (v1, m1), (v2, m2), (v3, m3)] := hx
            simp only [List.mem_cons, List.not_mem_nil, or_false] at hx'
            unfold maxLen
            rcases hx' with rfl | rfl | rfl | rfl <;> (simp only; omega)
          have HB2 : BlkA (wr.setCell ⟨w.heap.size, 2, none⟩ (.int .i64 (n : Int))) w.heap.size (u, p, (n : Int), (v0, m0), (v1, m1), (v2, m2), (v3, m3)) := hBj.set rfl
          have HR2 : Rdr (wr.setCell ⟨w.heap.size, 2, none⟩ (.int .i64 (n : Int))) g T s j false := hRj.far (fun e => hne e.symm) _
          have hg2 : w.grownBy (wr.setCell ⟨w.heap.size, 2, none⟩ (.int .i64 (n : Int))) (some g) := gfar hgj (Nat.le_refl _) _
          have HCK := Lib.hid (check_any u p (n : Int) v0 v1 v2 v3 m0 m1 m2 m3 (wr.setCell ⟨w.heap.size, 2, none⟩ (.int .i64 (n : Int))) hFt (hE.next (since_far hS hg2 hg0)))
          obtain ⟨z0, z1, z2, z3, z4, z5, z6, z7, z8, z9, z10⟩ := hBj.box.all
          have hlB := hBj.lt
          have hfB := hBj.free
          have hlg := hRj.lt
          have hfg := hRj.free
          clear hres hA hRE hpad hnl hFt ht0 ht1 ht2 ht3 hBj
          go_wp2_with fail
          refine HCK.out.mono ?_
          rintro e w9 ⟨rfl, hb9⟩
          generalize checkA ((u, p, (n : Int), (v0, m0), (v1, m1), (v2, m2), (v3, m3)) : Atm) = kk at *
          have HB9 := HB2.next hb9
          have HR9 := HR2.next hb9
          have hg9 := gsince hg2 hb9
          have c9 := HR9.c2
          have hl9 := HR9.lt
          have hf9 := HR9.free
          clear HB2 HR2 hg2 HCK hb9 z0 z1 z2 z3 z4 z5 z6 z7 z8 z9 z10
          cases hk9 : (kk != 0)
          case true =>
            have HP : Hid (∀ W, Rdr W g T s j true → w.grownBy W (some g) → RAtomPost s i bad g T w (.returned (.agg (atmC zeroAtm))) W) := by
              intro W h1 h2
              unfold RAtomPost
              rw [HA2.out, hk9, if_pos rfl]; exact ⟨rfl, h1, h2⟩
            have HBLK : (w9.setCell ⟨g, 2, none⟩ (.bool true)).heap[w.heap.size]? = some (.cells #[.string ⟨u.toArray⟩, .string ⟨p.toArray⟩, .int .i64 (n : Int), .bool v0, .string ⟨m0.toArray⟩, .bool v1, .string ⟨m1.toArray⟩, .bool v2, .string ⟨m2.toArray⟩, .bool v3, .string ⟨m3.toArray⟩] 26 (0, 0)) := HB9.far hne (.bool true)
            have HBK := Lib.hid HBLK
            have hone : Hid ((#[.string ⟨#[]⟩, .string ⟨#[]⟩, .int .i64 0, .bool false, .string ⟨#[]⟩, .bool false, .string ⟨#[]⟩, .bool false, .string ⟨#[]⟩, .bool false, .string ⟨#[]⟩] : Array Value).all (·.oneCell') = true) := by show _ = _; simp [Value.oneCell']
            clear HBLK HA2
            go_wp2_with (refine wpList_store_row rfl 26 (.tmp 2) (.tmp 77) rfl w.heap.size #[.string ⟨#[]⟩, .string ⟨#[]⟩, .int .i64 0, .bool false, .string ⟨#[]⟩, .bool false, .string ⟨#[]⟩, .bool false, .string ⟨#[]⟩, .bool false, .string ⟨#[]⟩] rfl rfl 26 #[.string ⟨u.toArray⟩, .string ⟨p.toArray⟩, .int .i64 (n : Int), .bool v0, .string ⟨m0.toArray⟩, .bool v1, .string ⟨m1.toArray⟩, .bool v2, .string ⟨m2.toArray⟩, .bool v3, .string ⟨m3.toArray⟩] HBK.out ainfoA rfl hone.out ?_)
            have hbx : Box ((w9.setCell ⟨g, 2, none⟩ (.bool true)).setRow w.heap.size #[.string ⟨#[]⟩, .string ⟨#[]⟩, .int .i64 0, .bool false, .string ⟨#[]⟩, .bool false, .string ⟨#[]⟩, .bool false, .string ⟨#[]⟩, .bool false, .string ⟨#[]⟩]) w.heap.size zeroAtm := (BlkA.row (a := ((u, p, (n : Int), (v0, m0), (v1, m1), (v2, m2), (v3, m3)) : Atm)) HBK.out zeroAtm).box
            obtain ⟨e0, e1, e2, e3, e4, e5, e6, e7, e8, e9, e10⟩ := hbx.all
            refine bodyPost_ret (v := .agg #[.string ⟨#[]⟩, .string ⟨#[]⟩, .int .i64 0, .bool false, .string ⟨#[]⟩, .bool false, .string ⟨#[]⟩, .bool false, .string ⟨#[]⟩, .bool false, .string ⟨#[]⟩]) (by simp [results, Tryz.results69, go_sem, e0, e1, e2, e3, e4, e5, e6, e7, e8, e9, e10, zeroAtm]) rfl ?_
            exact HP.out _ ((HR9.set2 true).row (fun e => hne e.symm) _) (grow_row (gset hg9 _ _) (Nat.le_refl _) _)
          case false =>
            have HP : Hid (∀ W, Rdr W g T s j false → w.grownBy W (some g) → RAtomPost s i bad g T w (.returned (.agg #[.string ⟨u.toArray⟩, .string ⟨p.toArray⟩, .int .i64 (n : Int), .bool v0, .string ⟨m0.toArray⟩, .bool v1, .string ⟨m1.toArray⟩, .bool v2, .string ⟨m2.toArray⟩, .bool v3, .string ⟨m3.toArray⟩])) W) := by
              intro W h1 h2
              unfold RAtomPost
              rw [HA2.out, hk9, if_neg (by simp)]; exact ⟨rfl, h1, h2⟩
            have HBLK : (w9.setCell ⟨g, 2, none⟩ (.bool false)).heap[w.heap.size]? = some (.cells #[.string ⟨u.toArray⟩, .string ⟨p.toArray⟩, .int .i64 (n : Int), .bool v0, .string ⟨m0.toArray⟩, .bool v1, .string ⟨m1.toArray⟩, .bool v2, .string ⟨m2.toArray⟩, .bool v3, .string ⟨m3.toArray⟩] 26 (0, 0)) := HB9.far hne (.bool false)
            have HBK := Lib.hid HBLK
            have hone : Hid ((#[.string ⟨u.toArray⟩, .string ⟨p.toArray⟩, .int .i64 (n : Int), .bool v0, .string ⟨m0.toArray⟩, .bool v1, .string ⟨m1.toArray⟩, .bool v2, .string ⟨m2.toArray⟩, .bool v3, .string ⟨m3.toArray⟩] : Array Value).all (·.oneCell') = true) := by show _ = _; simp [Value.oneCell']
            obtain ⟨z0, z1, z2, z3, z4, z5, z6, z7, z8, z9, z10⟩ := HB9.box.all
            clear HBLK HA2
            go_wp2_with (refine wpList_store_row rfl 26 (.tmp 2) (.tmp 78) rfl w.heap.size #[.string ⟨u.toArray⟩, .string ⟨p.toArray⟩, .int .i64 (n : Int), .bool v0, .string ⟨m0.toArray⟩, .bool v1, .string ⟨m1.toArray⟩, .bool v2, .string ⟨m2.toArray⟩, .bool v3, .string ⟨m3.toArray⟩] rfl rfl 26 #[.string ⟨u.toArray⟩, .string ⟨p.toArray⟩, .int .i64 (n : Int), .bool v0, .string ⟨m0.toArray⟩, .bool v1, .string ⟨m1.toArray⟩, .bool v2, .string ⟨m2.toArray⟩, .bool v3, .string ⟨m3.toArray⟩] HBK.out ainfoA rfl hone.out ?_)
            have hbx : Box ((w9.setCell ⟨g, 2, none⟩ (.bool false)).setRow w.heap.size #[.string ⟨u.toArray⟩, .string ⟨p.toArray⟩, .int .i64 (n : Int), .bool v0, .string ⟨m0.toArray⟩, .bool v1, .string ⟨m1.toArray⟩, .bool v2, .string ⟨m2.toArray⟩, .bool v3, .string ⟨m3.toArray⟩]) w.heap.size ((u, p, (n : Int), (v0, m0), (v1, m1), (v2, m2), (v3, m3)) : Atm) := (BlkA.row (a := ((u, p, (n : Int), (v0, m0), (v1, m1), (v2, m2), (v3, m3)) : Atm)) HBK.out ((u, p, (n : Int), (v0, m0), (v1, m1), (v2, m2), (v3, m3)) : Atm)).box
            obtain ⟨e0, e1, e2, e3, e4, e5, e6, e7, e8, e9, e10⟩ := hbx.all
            refine bodyPost_ret (v := .agg #[.string ⟨u.toArray⟩, .string ⟨p.toArray⟩, .int .i64 (n : Int), .bool v0, .string ⟨m0.toArray⟩, .bool v1, .string ⟨m1.toArray⟩, .bool v2, .string ⟨m2.toArray⟩, .bool v3, .string ⟨m3.toArray⟩]) (by simp [results, Tryz.results69, go_sem, e0, e1, e2, e3, e4, e5, e6, e7, e8, e9, e10]) rfl ?_
            exact HP.out _ ((HR9.set2 false).row (fun e => hne e.symm) _) (grow_row (gset hg9 _ _) (Nat.le_refl _) _)
        · have HB2 : BlkA (wr.setCell ⟨w.heap.size, 2, none⟩ (.int .i64 (n : Int))) w.heap.size (padM u p n L) := hBj.set (pad_n u p n L)
          have HR2 : Rdr (wr.setCell ⟨w.heap.size, 2, none⟩ (.int .i64 (n : Int))) g T s j true := hRj.far (fun e => hne e.symm) _
          have hg2 : w.grownBy (wr.setCell ⟨w.heap.size, 2, none⟩ (.int .i64 (n : Int))) (some g) := gfar hgj (Nat.le_refl _) _
          have HP : Hid (∀ W, Rdr W g T s j true → w.grownBy W (some g) → RAtomPost s i bad g T w (.returned (.agg (atmC zeroAtm))) W) := by
            intro W h1 h2
            unfold RAtomPost
            rw [hA.out, hRE.out, if_pos (by simp)]; exact ⟨rfl, h1, h2⟩
          obtain ⟨_, _, z2, _, _, _, _, _, _, _, _⟩ := hBj.box.all
          have hlB := hBj.lt
          have hfB := hBj.free
          have hlg := hRj.lt
          have hfg := hRj.free
          clear hres hA hRE
          have HBLK : ((wr.setCell ⟨w.heap.size, 2, none⟩ (.int .i64 (n : Int))).setCell ⟨g, 2, none⟩ (.bool true)).heap[w.heap.size]? = some (.cells (atmC (padM u p n L)) 26 (0, 0)) := HB2.far hne (.bool true)
          have HBK := Lib.hid HBLK
          have hone : Hid ((#[.string ⟨#[]⟩, .string ⟨#[]⟩, .int .i64 0, .bool false, .string ⟨#[]⟩, .bool false, .string ⟨#[]⟩, .bool false, .string ⟨#[]⟩, .bool false, .string ⟨#[]⟩] : Array Value).all (·.oneCell') = true) := by show _ = _; simp [Value.oneCell']
          clear HBLK HB2
          go_wp2_with (refine wpList_store_row rfl 26 (.tmp 2) (.tmp 77) rfl w.heap.size #[.string ⟨#[]⟩, .string ⟨#[]⟩, .int .i64 0, .bool false, .string ⟨#[]⟩, .bool false, .string ⟨#[]⟩, .bool false, .string ⟨#[]⟩, .bool false, .string ⟨#[]⟩] rfl rfl 26 (atmC (padM u p n L)) HBK.out ainfoA rfl hone.out ?_)
          have hbx : Box (((wr.setCell ⟨w.heap.size, 2, none⟩ (.int .i64 (n : Int))).setCell ⟨g, 2, none⟩ (.bool true)).setRow w.heap.size #[.string ⟨#[]⟩, .string ⟨#[]⟩, .int .i64 0, .bool false, .string ⟨#[]⟩, .bool false, .string ⟨#[]⟩, .bool false, .string ⟨#[]⟩, .bool false, .string ⟨#[]⟩]) w.heap.size zeroAtm := (BlkA.row (a := padM u p n L) HBK.out zeroAtm).box
          obtain ⟨e0, e1, e2, e3, e4, e5, e6, e7, e8, e9, e10⟩ := hbx.all
          refine bodyPost_ret (v := .agg #[.string ⟨#[]⟩, .string ⟨#[]⟩, .int .i64 0, .bool false, .string ⟨#[]⟩, .bool false, .string ⟨#[]⟩, .bool false, .string ⟨#[]⟩, .bool false, .string ⟨#[]⟩]) (by simp [results, Tryz.results69, go_sem, e0, e1, e2, e3, e4, e5, e6, e7, e8, e9, e10, zeroAtm]) rfl ?_
          exact HP.out _ ((HR2.set2 true).row (fun e => hne e.symm) _) (grow_row (gset hg2 _ _) (Nat.le_refl _) _)
end Go.Proofs.YtkdeokgkjmboeaaGreatDoor
