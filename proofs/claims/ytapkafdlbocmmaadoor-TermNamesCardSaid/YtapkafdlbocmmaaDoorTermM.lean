/- term.Made: what is made of names and terms. -/
import Derived.Test.YtapkafdlbocmmaaDoorRow
import Derived.Test.YtapkafdlbocmmaaDoorTermT
import Derived.Test.YtapkafdlbocmmaaDoorCopy
namespace Go.Proofs.YtapkafdlbocmmaaDoor
open Go.RowKit

theorem setRow_alloc (w : World) (cur cs : Array Value) (t : TypeId) : (w.alloc (.cells cur t)).setRow w.heap.size cs = w.alloc (.cells cs t) := by
  unfold World.setRow World.alloc
  congr 1
  apply Array.ext
  · simp
  · intro k h1 h2
    simp only [Array.getElem_modify, Array.getElem_push]
    split
    · rename_i hk; subst hk; simp
    · split
      · rfl
      · exfalso; simp at h1; omega
theorem setRow_alloc2 (w : World) (o : Obj) (cur cs : Array Value) (t : TypeId) : ((w.alloc o).alloc (.cells cur t)).setRow (w.heap.size + 1) cs = (w.alloc o).alloc (.cells cs t) := by
  have := setRow_alloc (w.alloc o) cur cs t
  rwa [World.size_alloc] at this
theorem heap_alloc2 (w : World) (o o2 : Obj) : ((w.alloc o).alloc o2).heap[w.heap.size + 1]? = some o2 := by
  show ((w.heap.push o).push o2)[w.heap.size + 1]? = some o2
  have h : w.heap.size + 1 = (w.heap.push o).size := by simp
  rw [h, Array.getElem?_push_size]
/-- 'copy(a.Args[:], ..)' into the box that was laid last. -/
theorem wpList_copy_box {P : Program} {w : World} {ops : Array Oper} {rest : List Oper} {o : Oper} {a : Act} {Q : Exit → Act → World → Prop} (hgd : o.guard = none) (d s : Operand) (dT sT : TypeId)
    (ho : o.op = .call { callee := .builtin .copy, args := #[d, s], argTypes := #[dT, sT] }) (elem : TypeId) (K : Nat) (hu : P.underlying dT = some (.slice elem)) (hsz : (P.info? elem).map (·.size) = some K)
    (o1 : Obj) (off dLen dCap : Nat) (ad : Addr) (sLen sCap : Nat) (hd : a.eval d = .slice (some ⟨w.heap.size + 1, off, none⟩) dLen dCap) (hs : a.eval s = .slice (some ad) sLen sCap)
    (cur : Array Value) (t : TypeId) (cs : List Value) (new : Array Value) (m : Nat) (hm : Nat.min sLen dLen = m) (hn : cs.length = m * K)
    (hsrc : ∀ j v, cs[j]? = some v → ((w.alloc o1).alloc (.cells cur t)).cell? (ad.add j) = some v) (hfit : off + cs.length ≤ cur.size) (h1 : ∀ v ∈ cs, v.oneCell' = true)
    (hnew : (cur.toList.take off ++ cs ++ cur.toList.drop (off + cs.length)).toArray = new)
    (h : wpList P ops Q rest (a.put o.dst (goInt m)) ((w.alloc o1).alloc (.cells new t))) : wpList P ops Q (o :: rest) a ((w.alloc o1).alloc (.cells cur t)) := by
  refine wpList_copyK hgd d s dT sT ho elem K hu hsz (w.heap.size + 1) off dLen dCap ad sLen sCap hd hs cur t (heap_alloc2 _ _ _) cs m hm hn hsrc hfit h1 ?_
  rw [hnew, setRow_alloc2]
  exact h
theorem bcell {W w1 : World} (hb : Since W w1) : (∀ b o, b < W.heap.size → w1.cell? ⟨b, o, none⟩ = W.cell? ⟨b, o, none⟩) ∧ (∀ b o, b < W.heap.size → w1.frozen? ⟨b, o, none⟩ = W.frozen? ⟨b, o, none⟩) :=
  ⟨fun b o h => Below.cell hb (p := ⟨b, o, none⟩) h, fun b o h => Below.frozen hb (p := ⟨b, o, none⟩) h⟩
theorem sl_all (b o : Nat) (W : World) :
    (Instr.sliceAt 24 (.pointer (some ⟨b, o, none⟩)) none none none).run Tryd.prog W = .ok (.slice (some ⟨b, o, none⟩) 4 4) W := by
  rw [run_sliceAt_array_all W 24 ⟨b, o, none⟩ (by rw [alen, aelem]; exact Tryd.underlying24), aelem, tsize, alen]
  show Result.ok (slicedAt _ _ _ _ _) W = _
  rw [slicedAt, if_neg (by omega)]
  rfl

theorem run_copy_zero (P : Program) (w : World) (dT sT ty elem : TypeId) (K : Nat) (g : Option Addr) (dLen dCap : Nat) (a : Option Addr) (sCap : Nat)
    (hu : P.underlying dT = some (.slice elem)) (hs : (P.info? elem).map (·.size) = some K) :
    (Builtin.copy_ #[dT, sT] ty #[.slice g dLen dCap, .slice a 0 sCap]).run P w = .ok (goInt 0) w := by
  cases hq : P.info? elem with
  | none => simp [hq] at hs
  | some i => cases a <;> cases g <;> simp [Builtin.copy_, run_underlying hu, Builtin.lenOf, Builtin.firstCells, sizeOf, typeInfo, hq, storeCells, loadCells, loadCellsFrom]
theorem wpList_copy_zero {P : Program} {w : World} {ops : Array Oper} {rest : List Oper} {o : Oper} {a : Act} {Q : Exit → Act → World → Prop} (hgd : o.guard = none) (d s : Operand) (dT sT : TypeId)
    (ho : o.op = .call { callee := .builtin .copy, args := #[d, s], argTypes := #[dT, sT] }) (elem : TypeId) (K : Nat) (hu : P.underlying dT = some (.slice elem)) (hsz : (P.info? elem).map (·.size) = some K)
    (g : Option Addr) (dLen dCap : Nat) (ad : Option Addr) (sCap : Nat) (hd : a.eval d = .slice g dLen dCap) (hs : a.eval s = .slice ad 0 sCap)
    (h : wpList P ops Q rest (a.put o.dst (goInt 0)) w) : wpList P ops Q (o :: rest) a w := by
  refine wpList_plain hgd fun K' hK => ?_
  have hrun := run_copy_zero P w dT sT o.type elem K g dLen dCap ad sCap hu hsz
  unfold Oper.wp
  simp [execOp, ho, resolve, invoke, builtin, hd, hs, hrun, Result.andThen]
  exact hK _ _ h
theorem tinfo2 : (Tryd.prog.info? 23).map (·.size) = some 2 := by kernel_rfl

theorem ainfo11 : (Tryd.prog.info? 26).map (·.size) = some 11 := by kernel_rfl
theorem box_of_heap {W : World} {g : Nat} {a : Atm} {t : TypeId} {fr : Nat × Nat} (h : W.heap[g]? = some (.cells (atmC a) t fr)) : Box W g a := by
  intro j hj
  simp [World.cell?, h, hj]
theorem src_cells {W : World} {b : Nat} : ∀ (L : List Tm) (o : Nat), (∀ k, (h : k < L.length) → W.cell? ⟨b, o + k * 2, none⟩ = some (.bool L[k].1) ∧ W.cell? ⟨b, o + k * 2 + 1, none⟩ = some (.string ⟨L[k].2.toArray⟩)) →
    ∀ j v, (L.flatMap tmC)[j]? = some v → W.cell? ((⟨b, o, none⟩ : Addr).add j) = some v
  | [], _, _, j, v, h => by simp at h
  | t :: r, o, hc, j, v, h => by
    have hadd : (⟨b, o, none⟩ : Addr).add j = ⟨b, o + j, none⟩ := by unfold Addr.add; split <;> simp_all
    rw [hadd]
    have h0 := hc 0 (by simp)
    match j, h with
    | 0, h =>
      have e : some (Value.bool t.1) = some v := h
      rw [← e]; exact h0.1
    | 1, h =>
      have e : some (Value.string ⟨t.2.toArray⟩) = some v := h
      rw [← e]; exact h0.2
    | j + 2, h =>
      have h' : (r.flatMap tmC)[j]? = some v := h
      have := src_cells r (o + 2) (fun k hk => by
        have := hc (k + 1) (by simpa using hk)
        rw [show o + (k + 1) * 2 = o + 2 + k * 2 from by omega] at this
        exact this) j v h'
      have hadd2 : (⟨b, o + 2, none⟩ : Addr).add j = ⟨b, o + 2 + j, none⟩ := by unfold Addr.add; split <;> simp_all
      rw [hadd2] at this
      rw [show o + (j + 2) = o + 2 + j from by omega]; exact this
theorem heap_alloc1 (w : World) (o o2 : Obj) : ((w.alloc o).alloc o2).heap[w.heap.size]? = some o := by
  show ((w.heap.push o).push o2)[w.heap.size]? = some o
  rw [Array.getElem?_push, if_neg (by simp), Array.getElem?_push_size]

def zeroA : Atm := ([], [], 0, (false, []), (false, []), (false, []), (false, []))
/-- The atom of names and terms. -/
def padA (s p : List UInt8) (L : List Tm) : Atm := (s, p, L.length, L.getD 0 (false, []), L.getD 1 (false, []), L.getD 2 (false, []), L.getD 3 (false, []))
/-- What Made comes to. -/
def madeA (s p : List UInt8) (L : List Tm) : Atm × Int := if 4 < L.length then (zeroA, 4) else if (checkA (padA s p L) != 0) = true then (zeroA, checkA (padA s p L)) else (padA s p L, 0)
def atmV (a : Atm) : Value := .agg (atmC a)
/-- An atom and an error, in new memory or by value. -/
def MadePost (w : World) (r : Atm × Int) (e : Ending) (w' : World) : Prop := e = .returned (.tuple #[atmV r.1, .int .i64 r.2]) ∧ Since w w'

set_option maxHeartbeats 1000000 in
set_option maxRecDepth 100000 in
theorem made_0 (s p : List UInt8) (b : Option Addr) (c : Nat) (w : World) (hE : Env w) (hs : s.length ≤ maxLen) (hp : p.length ≤ maxLen) :
    Calls Tryd.prog 19 #[.string ⟨s.toArray⟩, .string ⟨p.toArray⟩, .slice b 0 c] w (MadePost w (madeA s p [])) := by
  have hsl := fun b o W => sl_all b o W
  obtain ⟨A, hA⟩ : ∃ A, Hid (A = ((s, p, 0, (false, []), (false, []), (false, []), (false, [])) : Atm)) := ⟨_, rfl⟩
  have hM : madeA s p [] = if (checkA A != 0) = true then (zeroA, checkA A) else (A, 0) := by rw [hA.out]; rfl
  have HM := Lib.hid hM
  have hFit : FitsA A := by
    rw [hA.out]
    refine ⟨hs, hp, ?_⟩
    intro t ht
    have ht' : t ∈ [(false, []), (false, []), (false, []), (false, [])] := ht
    simp only [List.mem_cons, List.not_mem_nil, or_false] at ht'
    rcases ht' with rfl | rfl | rfl | rfl <;> first | exact Nat.zero_le _ | assumption
  have hW1 : ∀ (o1 o2 : Obj), Since w ((w.alloc o1).alloc o2) := fun o1 o2 => ((Since.refl _).alloc _).alloc _
  have HCK := Lib.hid (fun W (hEW : Env W) => check_any s p 0 false false false false [] [] [] [] W (by rw [← hA.out]; exact hFit) hEW)
  rw [← hA.out] at HCK
  clear hM hFit
  go_enter Tryd.func19, Tryd.ntmps19
  go_wp2_with (with_reducible refine wpList_copy_zero (o := ⟨some 22, _, _, _, _, _⟩) rfl (.tmp 20) (.tmp 21) 36 36 rfl 23 2 Tryd.underlying36 tinfo2 _ 4 4 _ c rfl rfl ?_)
  refine (HCK.out _ (hE.next (hW1 _ _))).mono ?_
  rintro e w1 ⟨rfl, hb⟩
  have hS2 := (hW1 _ _).trans hb
  have hblk : w1.heap[w.heap.size]? = some (.cells #[.string ⟨#[]⟩, .string ⟨#[]⟩, .int .i64 0, .bool false, .string ⟨#[]⟩, .bool false, .string ⟨#[]⟩, .bool false, .string ⟨#[]⟩, .bool false, .string ⟨#[]⟩] 26 (0, 0)) := by
    exact (Below.block hb w.heap.size (by rw [World.size_alloc, World.size_alloc]; omega)).trans (heap_alloc1 _ _ _)
  have HBLK := Lib.hid hblk
  have hsz1 : w.heap.size ≤ w1.heap.size := hS2.size
  clear hblk
  have hone1 : Hid ((#[.string ⟨s.toArray⟩, .string ⟨p.toArray⟩, .int .i64 0, .bool false, .string ⟨#[]⟩, .bool false, .string ⟨#[]⟩, .bool false, .string ⟨#[]⟩, .bool false, .string ⟨#[]⟩] : Array Value).all (·.oneCell') = true) := by show _ = _; simp [Value.oneCell']
  have hone0 : Hid ((#[.string ⟨#[]⟩, .string ⟨#[]⟩, .int .i64 0, .bool false, .string ⟨#[]⟩, .bool false, .string ⟨#[]⟩, .bool false, .string ⟨#[]⟩, .bool false, .string ⟨#[]⟩] : Array Value).all (·.oneCell') = true) := by show _ = _; simp [Value.oneCell']
  cases hz0 : (checkA A != 0)
  · have hbox := (box_new (w.alloc (.cells #[.string ⟨#[]⟩, .string ⟨#[]⟩, .int .i64 0, .bool false, .string ⟨#[]⟩, .bool false, .string ⟨#[]⟩, .bool false, .string ⟨#[]⟩, .bool false, .string ⟨#[]⟩] 26)) ((s, p, 0, (false, []), (false, []), (false, []), (false, [])) : Atm) 26).next hb
    rw [World.size_alloc] at hbox
    obtain ⟨b0, b1, b2, b3, b4, b5, b6, b7, b8, b9, b10⟩ := hbox.all
    go_wp2_with (refine wpList_store_row rfl 26 (.tmp 6) (.tmp 29) rfl w.heap.size #[.string ⟨s.toArray⟩, .string ⟨p.toArray⟩, .int .i64 0, .bool false, .string ⟨#[]⟩, .bool false, .string ⟨#[]⟩, .bool false, .string ⟨#[]⟩, .bool false, .string ⟨#[]⟩] rfl rfl 26 #[.string ⟨#[]⟩, .string ⟨#[]⟩, .int .i64 0, .bool false, .string ⟨#[]⟩, .bool false, .string ⟨#[]⟩, .bool false, .string ⟨#[]⟩, .bool false, .string ⟨#[]⟩] HBLK.out ainfo11 rfl hone1.out ?_)
    have hbx : Box (w1.setRow w.heap.size #[.string ⟨s.toArray⟩, .string ⟨p.toArray⟩, .int .i64 0, .bool false, .string ⟨#[]⟩, .bool false, .string ⟨#[]⟩, .bool false, .string ⟨#[]⟩, .bool false, .string ⟨#[]⟩]) w.heap.size ((s, p, 0, (false, []), (false, []), (false, []), (false, [])) : Atm) := box_of_heap (t := 26) (setRow_heap w1 w.heap.size _ #[.string ⟨s.toArray⟩, .string ⟨p.toArray⟩, .int .i64 0, .bool false, .string ⟨#[]⟩, .bool false, .string ⟨#[]⟩, .bool false, .string ⟨#[]⟩, .bool false, .string ⟨#[]⟩] 26 _ HBLK.out)
    obtain ⟨e0, e1, e2, e3, e4, e5, e6, e7, e8, e9, e10⟩ := hbx.all
    refine bodyPost_ret (v := .tuple #[.agg #[.string ⟨s.toArray⟩, .string ⟨p.toArray⟩, .int .i64 0, .bool false, .string ⟨#[]⟩, .bool false, .string ⟨#[]⟩, .bool false, .string ⟨#[]⟩, .bool false, .string ⟨#[]⟩], .int .i64 0]) (by simp [results, Tryd.results19, go_sem, e0, e1, e2, e3, e4, e5, e6, e7, e8, e9, e10]) rfl ⟨?_, below_setRow hS2 (Nat.le_refl _) _⟩
    rw [HM.out, if_neg (by rw [hz0]; simp), hA.out]
    rfl
  · go_wp2_with (refine wpList_store_row rfl 26 (.tmp 6) (.tmp 27) rfl w.heap.size #[.string ⟨#[]⟩, .string ⟨#[]⟩, .int .i64 0, .bool false, .string ⟨#[]⟩, .bool false, .string ⟨#[]⟩, .bool false, .string ⟨#[]⟩, .bool false, .string ⟨#[]⟩] rfl rfl 26 #[.string ⟨#[]⟩, .string ⟨#[]⟩, .int .i64 0, .bool false, .string ⟨#[]⟩, .bool false, .string ⟨#[]⟩, .bool false, .string ⟨#[]⟩, .bool false, .string ⟨#[]⟩] HBLK.out ainfo11 rfl hone0.out ?_)
    have hbx : Box (w1.setRow w.heap.size #[.string ⟨#[]⟩, .string ⟨#[]⟩, .int .i64 0, .bool false, .string ⟨#[]⟩, .bool false, .string ⟨#[]⟩, .bool false, .string ⟨#[]⟩, .bool false, .string ⟨#[]⟩]) w.heap.size zeroA := box_of_heap (t := 26) (setRow_heap w1 w.heap.size _ #[.string ⟨#[]⟩, .string ⟨#[]⟩, .int .i64 0, .bool false, .string ⟨#[]⟩, .bool false, .string ⟨#[]⟩, .bool false, .string ⟨#[]⟩, .bool false, .string ⟨#[]⟩] 26 _ HBLK.out)
    obtain ⟨e0, e1, e2, e3, e4, e5, e6, e7, e8, e9, e10⟩ := hbx.all
    refine bodyPost_ret (v := .tuple #[.agg #[.string ⟨#[]⟩, .string ⟨#[]⟩, .int .i64 0, .bool false, .string ⟨#[]⟩, .bool false, .string ⟨#[]⟩, .bool false, .string ⟨#[]⟩, .bool false, .string ⟨#[]⟩], .int .i64 (checkA A)]) (by simp [results, Tryd.results19, go_sem, e0, e1, e2, e3, e4, e5, e6, e7, e8, e9, e10, zeroA]) rfl ⟨?_, below_setRow hS2 (Nat.le_refl _) _⟩
    rw [HM.out, if_pos hz0]
    rfl

set_option maxHeartbeats 1000000 in
set_option maxRecDepth 100000 in
theorem made_1 (s p : List UInt8) (v0 : Bool) (l0 : List UInt8) (b o c : Nat) (w : World) (hE : Env w) (hc : ∀ k, (h : k < ([(v0, l0)] : List Tm).length) → w.cell? ⟨b, o + k * 2, none⟩ = some (.bool ([(v0, l0)] : List Tm)[k].1) ∧ w.cell? ⟨b, o + k * 2 + 1, none⟩ = some (.string ⟨([(v0, l0)] : List Tm)[k].2.toArray⟩)) (hs : s.length ≤ maxLen) (hp : p.length ≤ maxLen) (h0 : l0.length ≤ maxLen) :
    Calls Tryd.prog 19 #[.string ⟨s.toArray⟩, .string ⟨p.toArray⟩, .slice (some ⟨b, o, none⟩) 1 c] w (MadePost w (madeA s p [(v0, l0)])) := by
  have hsl := fun b o W => sl_all b o W
  obtain ⟨A, hA⟩ : ∃ A, Hid (A = ((s, p, 1, (v0, l0), (false, []), (false, []), (false, [])) : Atm)) := ⟨_, rfl⟩
  have hM : madeA s p [(v0, l0)] = if (checkA A != 0) = true then (zeroA, checkA A) else (A, 0) := by rw [hA.out]; rfl
  have HM := Lib.hid hM
  have hFit : FitsA A := by
    rw [hA.out]
    refine ⟨hs, hp, ?_⟩
    intro t ht
    have ht' : t ∈ [(v0, l0), (false, []), (false, []), (false, [])] := ht
    simp only [List.mem_cons, List.not_mem_nil, or_false] at ht'
    rcases ht' with rfl | rfl | rfl | rfl <;> first | exact Nat.zero_le _ | assumption
  have hW1 : ∀ (o1 o2 : Obj), Since w ((w.alloc o1).alloc o2) := fun o1 o2 => ((Since.refl _).alloc _).alloc _
  have HCK := Lib.hid (fun W (hEW : Env W) => check_any s p 1 v0 false false false l0 [] [] [] W (by rw [← hA.out]; exact hFit) hEW)
  rw [← hA.out] at HCK
  have HSRC := Lib.hid hc
  clear hM hFit hc
  go_enter Tryd.func19, Tryd.ntmps19
  go_wp2_with (with_reducible refine wpList_copy_box (o := ⟨some 22, _, _, _, _, _⟩) rfl (.tmp 20) (.tmp 21) 36 36 rfl 23 2 Tryd.underlying36 tinfo2 _ 3 4 4 ⟨b, o, none⟩ 1 c rfl rfl _ _ [.bool v0, .string ⟨l0.toArray⟩] #[.string ⟨s.toArray⟩, .string ⟨p.toArray⟩, .int .i64 1, .bool v0, .string ⟨l0.toArray⟩, .bool false, .string ⟨#[]⟩, .bool false, .string ⟨#[]⟩, .bool false, .string ⟨#[]⟩] 1 rfl rfl ?k2 ?k3 ?k4 rfl ?_)
  case k2 => exact fun j v hj => (hW1 _ _).cell (src_cells [(v0, l0)] o HSRC.out j v hj)
  case k3 => simp
  case k4 => simp [Value.oneCell']
  refine (HCK.out _ (hE.next (hW1 _ _))).mono ?_
  rintro e w1 ⟨rfl, hb⟩
  have hS2 := (hW1 _ _).trans hb
  have hblk : w1.heap[w.heap.size]? = some (.cells #[.string ⟨#[]⟩, .string ⟨#[]⟩, .int .i64 0, .bool false, .string ⟨#[]⟩, .bool false, .string ⟨#[]⟩, .bool false, .string ⟨#[]⟩, .bool false, .string ⟨#[]⟩] 26 (0, 0)) := by
    exact (Below.block hb w.heap.size (by rw [World.size_alloc, World.size_alloc]; omega)).trans (heap_alloc1 _ _ _)
  have HBLK := Lib.hid hblk
  have hsz1 : w.heap.size ≤ w1.heap.size := hS2.size
  clear hblk
  have hone1 : Hid ((#[.string ⟨s.toArray⟩, .string ⟨p.toArray⟩, .int .i64 1, .bool v0, .string ⟨l0.toArray⟩, .bool false, .string ⟨#[]⟩, .bool false, .string ⟨#[]⟩, .bool false, .string ⟨#[]⟩] : Array Value).all (·.oneCell') = true) := by show _ = _; simp [Value.oneCell']
  have hone0 : Hid ((#[.string ⟨#[]⟩, .string ⟨#[]⟩, .int .i64 0, .bool false, .string ⟨#[]⟩, .bool false, .string ⟨#[]⟩, .bool false, .string ⟨#[]⟩, .bool false, .string ⟨#[]⟩] : Array Value).all (·.oneCell') = true) := by show _ = _; simp [Value.oneCell']
  cases hz0 : (checkA A != 0)
  · have hbox := (box_new (w.alloc (.cells #[.string ⟨#[]⟩, .string ⟨#[]⟩, .int .i64 0, .bool false, .string ⟨#[]⟩, .bool false, .string ⟨#[]⟩, .bool false, .string ⟨#[]⟩, .bool false, .string ⟨#[]⟩] 26)) ((s, p, 1, (v0, l0), (false, []), (false, []), (false, [])) : Atm) 26).next hb
    rw [World.size_alloc] at hbox
    obtain ⟨b0, b1, b2, b3, b4, b5, b6, b7, b8, b9, b10⟩ := hbox.all
    go_wp2_with (refine wpList_store_row rfl 26 (.tmp 6) (.tmp 29) rfl w.heap.size #[.string ⟨s.toArray⟩, .string ⟨p.toArray⟩, .int .i64 1, .bool v0, .string ⟨l0.toArray⟩, .bool false, .string ⟨#[]⟩, .bool false, .string ⟨#[]⟩, .bool false, .string ⟨#[]⟩] rfl rfl 26 #[.string ⟨#[]⟩, .string ⟨#[]⟩, .int .i64 0, .bool false, .string ⟨#[]⟩, .bool false, .string ⟨#[]⟩, .bool false, .string ⟨#[]⟩, .bool false, .string ⟨#[]⟩] HBLK.out ainfo11 rfl hone1.out ?_)
    have hbx : Box (w1.setRow w.heap.size #[.string ⟨s.toArray⟩, .string ⟨p.toArray⟩, .int .i64 1, .bool v0, .string ⟨l0.toArray⟩, .bool false, .string ⟨#[]⟩, .bool false, .string ⟨#[]⟩, .bool false, .string ⟨#[]⟩]) w.heap.size ((s, p, 1, (v0, l0), (false, []), (false, []), (false, [])) : Atm) := box_of_heap (t := 26) (setRow_heap w1 w.heap.size _ #[.string ⟨s.toArray⟩, .string ⟨p.toArray⟩, .int .i64 1, .bool v0, .string ⟨l0.toArray⟩, .bool false, .string ⟨#[]⟩, .bool false, .string ⟨#[]⟩, .bool false, .string ⟨#[]⟩] 26 _ HBLK.out)
    obtain ⟨e0, e1, e2, e3, e4, e5, e6, e7, e8, e9, e10⟩ := hbx.all
    refine bodyPost_ret (v := .tuple #[.agg #[.string ⟨s.toArray⟩, .string ⟨p.toArray⟩, .int .i64 1, .bool v0, .string ⟨l0.toArray⟩, .bool false, .string ⟨#[]⟩, .bool false, .string ⟨#[]⟩, .bool false, .string ⟨#[]⟩], .int .i64 0]) (by simp [results, Tryd.results19, go_sem, e0, e1, e2, e3, e4, e5, e6, e7, e8, e9, e10]) rfl ⟨?_, below_setRow hS2 (Nat.le_refl _) _⟩
    rw [HM.out, if_neg (by rw [hz0]; simp), hA.out]
    rfl
  · go_wp2_with (refine wpList_store_row rfl 26 (.tmp 6) (.tmp 27) rfl w.heap.size #[.string ⟨#[]⟩, .string ⟨#[]⟩, .int .i64 0, .bool false, .string ⟨#[]⟩, .bool false, .string ⟨#[]⟩, .bool false, .string ⟨#[]⟩, .bool false, .string ⟨#[]⟩] rfl rfl 26 #[.string ⟨#[]⟩, .string ⟨#[]⟩, .int .i64 0, .bool false, .string ⟨#[]⟩, .bool false, .string ⟨#[]⟩, .bool false, .string ⟨#[]⟩, .bool false, .string ⟨#[]⟩] HBLK.out ainfo11 rfl hone0.out ?_)
    have hbx : Box (w1.setRow w.heap.size #[.string ⟨#[]⟩, .string ⟨#[]⟩, .int .i64 0, .bool false, .string ⟨#[]⟩, .bool false, .string ⟨#[]⟩, .bool false, .string ⟨#[]⟩, .bool false, .string ⟨#[]⟩]) w.heap.size zeroA := box_of_heap (t := 26) (setRow_heap w1 w.heap.size _ #[.string ⟨#[]⟩, .string ⟨#[]⟩, .int .i64 0, .bool false, .string ⟨#[]⟩, .bool false, .string ⟨#[]⟩, .bool false, .string ⟨#[]⟩, .bool false, .string ⟨#[]⟩] 26 _ HBLK.out)
    obtain ⟨e0, e1, e2, e3, e4, e5, e6, e7, e8, e9, e10⟩ := hbx.all
    refine bodyPost_ret (v := .tuple #[.agg #[.string ⟨#[]⟩, .string ⟨#[]⟩, .int .i64 0, .bool false, .string ⟨#[]⟩, .bool false, .string ⟨#[]⟩, .bool false, .string ⟨#[]⟩, .bool false, .string ⟨#[]⟩], .int .i64 (checkA A)]) (by simp [results, Tryd.results19, go_sem, e0, e1, e2, e3, e4, e5, e6, e7, e8, e9, e10, zeroA]) rfl ⟨?_, below_setRow hS2 (Nat.le_refl _) _⟩
    rw [HM.out, if_pos hz0]
    rfl

set_option maxHeartbeats 1000000 in
set_option maxRecDepth 100000 in
theorem made_2 (s p : List UInt8) (v0 v1 : Bool) (l0 l1 : List UInt8) (b o c : Nat) (w : World) (hE : Env w) (hc : ∀ k, (h : k < ([(v0, l0), (v1, l1)] : List Tm).length) → w.cell? ⟨b, o + k * 2, none⟩ = some (.bool ([(v0, l0), (v1, l1)] : List Tm)[k].1) ∧ w.cell? ⟨b, o + k * 2 + 1, none⟩ = some (.string ⟨([(v0, l0), (v1, l1)] : List Tm)[k].2.toArray⟩)) (hs : s.length ≤ maxLen) (hp : p.length ≤ maxLen) (h0 : l0.length ≤ maxLen) (h1 : l1.length ≤ maxLen) :
    Calls Tryd.prog 19 #[.string ⟨s.toArray⟩, .string ⟨p.toArray⟩, .slice (some ⟨b, o, none⟩) 2 c] w (MadePost w (madeA s p [(v0, l0), (v1, l1)])) := by
  have hsl := fun b o W => sl_all b o W
  obtain ⟨A, hA⟩ : ∃ A, Hid (A = ((s, p, 2, (v0, l0), (v1, l1), (false, []), (false, [])) : Atm)) := ⟨_, rfl⟩
  have hM : madeA s p [(v0, l0), (v1, l1)] = if (checkA A != 0) = true then (zeroA, checkA A) else (A, 0) := by rw [hA.out]; rfl
  have HM := Lib.hid hM
  have hFit : FitsA A := by
    rw [hA.out]
    refine ⟨hs, hp, ?_⟩
    intro t ht
    have ht' : t ∈ [(v0, l0), (v1, l1), (false, []), (false, [])] := ht
    simp only [List.mem_cons, List.not_mem_nil, or_false] at ht'
    rcases ht' with rfl | rfl | rfl | rfl <;> first | exact Nat.zero_le _ | assumption
  have hW1 : ∀ (o1 o2 : Obj), Since w ((w.alloc o1).alloc o2) := fun o1 o2 => ((Since.refl _).alloc _).alloc _
  have HCK := Lib.hid (fun W (hEW : Env W) => check_any s p 2 v0 v1 false false l0 l1 [] [] W (by rw [← hA.out]; exact hFit) hEW)
  rw [← hA.out] at HCK
  have HSRC := Lib.hid hc
  clear hM hFit hc
  go_enter Tryd.func19, Tryd.ntmps19
  go_wp2_with (with_reducible refine wpList_copy_box (o := ⟨some 22, _, _, _, _, _⟩) rfl (.tmp 20) (.tmp 21) 36 36 rfl 23 2 Tryd.underlying36 tinfo2 _ 3 4 4 ⟨b, o, none⟩ 2 c rfl rfl _ _ [.bool v0, .string ⟨l0.toArray⟩, .bool v1, .string ⟨l1.toArray⟩] #[.string ⟨s.toArray⟩, .string ⟨p.toArray⟩, .int .i64 2, .bool v0, .string ⟨l0.toArray⟩, .bool v1, .string ⟨l1.toArray⟩, .bool false, .string ⟨#[]⟩, .bool false, .string ⟨#[]⟩] 2 rfl rfl ?k2 ?k3 ?k4 rfl ?_)
  case k2 => exact fun j v hj => (hW1 _ _).cell (src_cells [(v0, l0), (v1, l1)] o HSRC.out j v hj)
  case k3 => simp
  case k4 => simp [Value.oneCell']
  refine (HCK.out _ (hE.next (hW1 _ _))).mono ?_
  rintro e w1 ⟨rfl, hb⟩
  have hS2 := (hW1 _ _).trans hb
  have hblk : w1.heap[w.heap.size]? = some (.cells #[.string ⟨#[]⟩, .string ⟨#[]⟩, .int .i64 0, .bool false, .string ⟨#[]⟩, .bool false, .string ⟨#[]⟩, .bool false, .string ⟨#[]⟩, .bool false, .string ⟨#[]⟩] 26 (0, 0)) := by
    exact (Below.block hb w.heap.size (by rw [World.size_alloc, World.size_alloc]; omega)).trans (heap_alloc1 _ _ _)
  have HBLK := Lib.hid hblk
  have hsz1 : w.heap.size ≤ w1.heap.size := hS2.size
  clear hblk
  have hone1 : Hid ((#[.string ⟨s.toArray⟩, .string ⟨p.toArray⟩, .int .i64 2, .bool v0, .string ⟨l0.toArray⟩, .bool v1, .string ⟨l1.toArray⟩, .bool false, .string ⟨#[]⟩, .bool false, .string ⟨#[]⟩] : Array Value).all (·.oneCell') = true) := by show _ = _; simp [Value.oneCell']
  have hone0 : Hid ((#[.string ⟨#[]⟩, .string ⟨#[]⟩, .int .i64 0, .bool false, .string ⟨#[]⟩, .bool false, .string ⟨#[]⟩, .bool false, .string ⟨#[]⟩, .bool false, .string ⟨#[]⟩] : Array Value).all (·.oneCell') = true) := by show _ = _; simp [Value.oneCell']
  cases hz0 : (checkA A != 0)
  · have hbox := (box_new (w.alloc (.cells #[.string ⟨#[]⟩, .string ⟨#[]⟩, .int .i64 0, .bool false, .string ⟨#[]⟩, .bool false, .string ⟨#[]⟩, .bool false, .string ⟨#[]⟩, .bool false, .string ⟨#[]⟩] 26)) ((s, p, 2, (v0, l0), (v1, l1), (false, []), (false, [])) : Atm) 26).next hb
    rw [World.size_alloc] at hbox
    obtain ⟨b0, b1, b2, b3, b4, b5, b6, b7, b8, b9, b10⟩ := hbox.all
    go_wp2_with (refine wpList_store_row rfl 26 (.tmp 6) (.tmp 29) rfl w.heap.size #[.string ⟨s.toArray⟩, .string ⟨p.toArray⟩, .int .i64 2, .bool v0, .string ⟨l0.toArray⟩, .bool v1, .string ⟨l1.toArray⟩, .bool false, .string ⟨#[]⟩, .bool false, .string ⟨#[]⟩] rfl rfl 26 #[.string ⟨#[]⟩, .string ⟨#[]⟩, .int .i64 0, .bool false, .string ⟨#[]⟩, .bool false, .string ⟨#[]⟩, .bool false, .string ⟨#[]⟩, .bool false, .string ⟨#[]⟩] HBLK.out ainfo11 rfl hone1.out ?_)
    have hbx : Box (w1.setRow w.heap.size #[.string ⟨s.toArray⟩, .string ⟨p.toArray⟩, .int .i64 2, .bool v0, .string ⟨l0.toArray⟩, .bool v1, .string ⟨l1.toArray⟩, .bool false, .string ⟨#[]⟩, .bool false, .string ⟨#[]⟩]) w.heap.size ((s, p, 2, (v0, l0), (v1, l1), (false, []), (false, [])) : Atm) := box_of_heap (t := 26) (setRow_heap w1 w.heap.size _ #[.string ⟨s.toArray⟩, .string ⟨p.toArray⟩, .int .i64 2, .bool v0, .string ⟨l0.toArray⟩, .bool v1, .string ⟨l1.toArray⟩, .bool false, .string ⟨#[]⟩, .bool false, .string ⟨#[]⟩] 26 _ HBLK.out)
    obtain ⟨e0, e1, e2, e3, e4, e5, e6, e7, e8, e9, e10⟩ := hbx.all
    refine bodyPost_ret (v := .tuple #[.agg #[.string ⟨s.toArray⟩, .string ⟨p.toArray⟩, .int .i64 2, .bool v0, .string ⟨l0.toArray⟩, .bool v1, .string ⟨l1.toArray⟩, .bool false, .string ⟨#[]⟩, .bool false, .string ⟨#[]⟩], .int .i64 0]) (by simp [results, Tryd.results19, go_sem, e0, e1, e2, e3, e4, e5, e6, e7, e8, e9, e10]) rfl ⟨?_, below_setRow hS2 (Nat.le_refl _) _⟩
    rw [HM.out, if_neg (by rw [hz0]; simp), hA.out]
    rfl
  · go_wp2_with (refine wpList_store_row rfl 26 (.tmp 6) (.tmp 27) rfl w.heap.size #[.string ⟨#[]⟩, .string ⟨#[]⟩, .int .i64 0, .bool false, .string ⟨#[]⟩, .bool false, .string ⟨#[]⟩, .bool false, .string ⟨#[]⟩, .bool false, .string ⟨#[]⟩] rfl rfl 26 #[.string ⟨#[]⟩, .string ⟨#[]⟩, .int .i64 0, .bool false, .string ⟨#[]⟩, .bool false, .string ⟨#[]⟩, .bool false, .string ⟨#[]⟩, .bool false, .string ⟨#[]⟩] HBLK.out ainfo11 rfl hone0.out ?_)
    have hbx : Box (w1.setRow w.heap.size #[.string ⟨#[]⟩, .string ⟨#[]⟩, .int .i64 0, .bool false, .string ⟨#[]⟩, .bool false, .string ⟨#[]⟩, .bool false, .string ⟨#[]⟩, .bool false, .string ⟨#[]⟩]) w.heap.size zeroA := box_of_heap (t := 26) (setRow_heap w1 w.heap.size _ #[.string ⟨#[]⟩, .string ⟨#[]⟩, .int .i64 0, .bool false, .string ⟨#[]⟩, .bool false, .string ⟨#[]⟩, .bool false, .string ⟨#[]⟩, .bool false, .string ⟨#[]⟩] 26 _ HBLK.out)
    obtain ⟨e0, e1, e2, e3, e4, e5, e6, e7, e8, e9, e10⟩ := hbx.all
    refine bodyPost_ret (v := .tuple #[.agg #[.string ⟨#[]⟩, .string ⟨#[]⟩, .int .i64 0, .bool false, .string ⟨#[]⟩, .bool false, .string ⟨#[]⟩, .bool false, .string ⟨#[]⟩, .bool false, .string ⟨#[]⟩], .int .i64 (checkA A)]) (by simp [results, Tryd.results19, go_sem, e0, e1, e2, e3, e4, e5, e6, e7, e8, e9, e10, zeroA]) rfl ⟨?_, below_setRow hS2 (Nat.le_refl _) _⟩
    rw [HM.out, if_pos hz0]
    rfl

set_option maxHeartbeats 1000000 in
set_option maxRecDepth 100000 in
theorem made_3 (s p : List UInt8) (v0 v1 v2 : Bool) (l0 l1 l2 : List UInt8) (b o c : Nat) (w : World) (hE : Env w) (hc : ∀ k, (h : k < ([(v0, l0), (v1, l1), (v2, l2)] : List Tm).length) → w.cell? ⟨b, o + k * 2, none⟩ = some (.bool ([(v0, l0), (v1, l1), (v2, l2)] : List Tm)[k].1) ∧ w.cell? ⟨b, o + k * 2 + 1, none⟩ = some (.string ⟨([(v0, l0), (v1, l1), (v2, l2)] : List Tm)[k].2.toArray⟩)) (hs : s.length ≤ maxLen) (hp : p.length ≤ maxLen) (h0 : l0.length ≤ maxLen) (h1 : l1.length ≤ maxLen) (h2 : l2.length ≤ maxLen) :
    Calls Tryd.prog 19 #[.string ⟨s.toArray⟩, .string ⟨p.toArray⟩, .slice (some ⟨b, o, none⟩) 3 c] w (MadePost w (madeA s p [(v0, l0), (v1, l1), (v2, l2)])) := by
  have hsl := fun b o W => sl_all b o W
  obtain ⟨A, hA⟩ : ∃ A, Hid (A = ((s, p, 3, (v0, l0), (v1, l1), (v2, l2), (false, [])) : Atm)) := ⟨_, rfl⟩
  have hM : madeA s p [(v0, l0), (v1, l1), (v2, l2)] = if (checkA A != 0) = true then (zeroA, checkA A) else (A, 0) := by rw [hA.out]; rfl
  have HM := Lib.hid hM
  have hFit : FitsA A := by
    rw [hA.out]
    refine ⟨hs, hp, ?_⟩
    intro t ht
    have ht' : t ∈ [(v0, l0), (v1, l1), (v2, l2), (false, [])] := ht
    simp only [List.mem_cons, List.not_mem_nil, or_false] at ht'
    rcases ht' with rfl | rfl | rfl | rfl <;> first | exact Nat.zero_le _ | assumption
  have hW1 : ∀ (o1 o2 : Obj), Since w ((w.alloc o1).alloc o2) := fun o1 o2 => ((Since.refl _).alloc _).alloc _
  have HCK := Lib.hid (fun W (hEW : Env W) => check_any s p 3 v0 v1 v2 false l0 l1 l2 [] W (by rw [← hA.out]; exact hFit) hEW)
  rw [← hA.out] at HCK
  have HSRC := Lib.hid hc
  clear hM hFit hc
  go_enter Tryd.func19, Tryd.ntmps19
  go_wp2_with (with_reducible refine wpList_copy_box (o := ⟨some 22, _, _, _, _, _⟩) rfl (.tmp 20) (.tmp 21) 36 36 rfl 23 2 Tryd.underlying36 tinfo2 _ 3 4 4 ⟨b, o, none⟩ 3 c rfl rfl _ _ [.bool v0, .string ⟨l0.toArray⟩, .bool v1, .string ⟨l1.toArray⟩, .bool v2, .string ⟨l2.toArray⟩] #[.string ⟨s.toArray⟩, .string ⟨p.toArray⟩, .int .i64 3, .bool v0, .string ⟨l0.toArray⟩, .bool v1, .string ⟨l1.toArray⟩, .bool v2, .string ⟨l2.toArray⟩, .bool false, .string ⟨#[]⟩] 3 rfl rfl ?k2 ?k3 ?k4 rfl ?_)
  case k2 => exact fun j v hj => (hW1 _ _).cell (src_cells [(v0, l0), (v1, l1), (v2, l2)] o HSRC.out j v hj)
  case k3 => simp
  case k4 => simp [Value.oneCell']
  refine (HCK.out _ (hE.next (hW1 _ _))).mono ?_
  rintro e w1 ⟨rfl, hb⟩
  have hS2 := (hW1 _ _).trans hb
  have hblk : w1.heap[w.heap.size]? = some (.cells #[.string ⟨#[]⟩, .string ⟨#[]⟩, .int .i64 0, .bool false, .string ⟨#[]⟩, .bool false, .string ⟨#[]⟩, .bool false, .string ⟨#[]⟩, .bool false, .string ⟨#[]⟩] 26 (0, 0)) := by
    exact (Below.block hb w.heap.size (by rw [World.size_alloc, World.size_alloc]; omega)).trans (heap_alloc1 _ _ _)
  have HBLK := Lib.hid hblk
  have hsz1 : w.heap.size ≤ w1.heap.size := hS2.size
  clear hblk
  have hone1 : Hid ((#[.string ⟨s.toArray⟩, .string ⟨p.toArray⟩, .int .i64 3, .bool v0, .string ⟨l0.toArray⟩, .bool v1, .string ⟨l1.toArray⟩, .bool v2, .string ⟨l2.toArray⟩, .bool false, .string ⟨#[]⟩] : Array Value).all (·.oneCell') = true) := by show _ = _; simp [Value.oneCell']
  have hone0 : Hid ((#[.string ⟨#[]⟩, .string ⟨#[]⟩, .int .i64 0, .bool false, .string ⟨#[]⟩, .bool false, .string ⟨#[]⟩, .bool false, .string ⟨#[]⟩, .bool false, .string ⟨#[]⟩] : Array Value).all (·.oneCell') = true) := by show _ = _; simp [Value.oneCell']
  cases hz0 : (checkA A != 0)
  · have hbox := (box_new (w.alloc (.cells #[.string ⟨#[]⟩, .string ⟨#[]⟩, .int .i64 0, .bool false, .string ⟨#[]⟩, .bool false, .string ⟨#[]⟩, .bool false, .string ⟨#[]⟩, .bool false, .string ⟨#[]⟩] 26)) ((s, p, 3, (v0, l0), (v1, l1), (v2, l2), (false, [])) : Atm) 26).next hb
    rw [World.size_alloc] at hbox
    obtain ⟨b0, b1, b2, b3, b4, b5, b6, b7, b8, b9, b10⟩ := hbox.all
    go_wp2_with (refine wpList_store_row rfl 26 (.tmp 6) (.tmp 29) rfl w.heap.size #[.string ⟨s.toArray⟩, .string ⟨p.toArray⟩, .int .i64 3, .bool v0, .string ⟨l0.toArray⟩, .bool v1, .string ⟨l1.toArray⟩, .bool v2, .string ⟨l2.toArray⟩, .bool false, .string ⟨#[]⟩] rfl rfl 26 #[.string ⟨#[]⟩, .string ⟨#[]⟩, .int .i64 0, .bool false, .string ⟨#[]⟩, .bool false, .string ⟨#[]⟩, .bool false, .string ⟨#[]⟩, .bool false, .string ⟨#[]⟩] HBLK.out ainfo11 rfl hone1.out ?_)
    have hbx : Box (w1.setRow w.heap.size #[.string ⟨s.toArray⟩, .string ⟨p.toArray⟩, .int .i64 3, .bool v0, .string ⟨l0.toArray⟩, .bool v1, .string ⟨l1.toArray⟩, .bool v2, .string ⟨l2.toArray⟩, .bool false, .string ⟨#[]⟩]) w.heap.size ((s, p, 3, (v0, l0), (v1, l1), (v2, l2), (false, [])) : Atm) := box_of_heap (t := 26) (setRow_heap w1 w.heap.size _ #[.string ⟨s.toArray⟩, .string ⟨p.toArray⟩, .int .i64 3, .bool v0, .string ⟨l0.toArray⟩, .bool v1, .string ⟨l1.toArray⟩, .bool v2, .string ⟨l2.toArray⟩, .bool false, .string ⟨#[]⟩] 26 _ HBLK.out)
    obtain ⟨e0, e1, e2, e3, e4, e5, e6, e7, e8, e9, e10⟩ := hbx.all
    refine bodyPost_ret (v := .tuple #[.agg #[.string ⟨s.toArray⟩, .string ⟨p.toArray⟩, .int .i64 3, .bool v0, .string ⟨l0.toArray⟩, .bool v1, .string ⟨l1.toArray⟩, .bool v2, .string ⟨l2.toArray⟩, .bool false, .string ⟨#[]⟩], .int .i64 0]) (by simp [results, Tryd.results19, go_sem, e0, e1, e2, e3, e4, e5, e6, e7, e8, e9, e10]) rfl ⟨?_, below_setRow hS2 (Nat.le_refl _) _⟩
    rw [HM.out, if_neg (by rw [hz0]; simp), hA.out]
    rfl
  · go_wp2_with (refine wpList_store_row rfl 26 (.tmp 6) (.tmp 27) rfl w.heap.size #[.string ⟨#[]⟩, .string ⟨#[]⟩, .int .i64 0, .bool false, .string ⟨#[]⟩, .bool false, .string ⟨#[]⟩, .bool false, .string ⟨#[]⟩, .bool false, .string ⟨#[]⟩] rfl rfl 26 #[.string ⟨#[]⟩, .string ⟨#[]⟩, .int .i64 0, .bool false, .string ⟨#[]⟩, .bool false, .string ⟨#[]⟩, .bool false, .string ⟨#[]⟩, .bool false, .string ⟨#[]⟩] HBLK.out ainfo11 rfl hone0.out ?_)
    have hbx : Box (w1.setRow w.heap.size #[.string ⟨#[]⟩, .string ⟨#[]⟩, .int .i64 0, .bool false, .string ⟨#[]⟩, .bool false, .string ⟨#[]⟩, .bool false, .string ⟨#[]⟩, .bool false, .string ⟨#[]⟩]) w.heap.size zeroA := box_of_heap (t := 26) (setRow_heap w1 w.heap.size _ #[.string ⟨#[]⟩, .string ⟨#[]⟩, .int .i64 0, .bool false, .string ⟨#[]⟩, .bool false, .string ⟨#[]⟩, .bool false, .string ⟨#[]⟩, .bool false, .string ⟨#[]⟩] 26 _ HBLK.out)
    obtain ⟨e0, e1, e2, e3, e4, e5, e6, e7, e8, e9, e10⟩ := hbx.all
    refine bodyPost_ret (v := .tuple #[.agg #[.string ⟨#[]⟩, .string ⟨#[]⟩, .int .i64 0, .bool false, .string ⟨#[]⟩, .bool false, .string ⟨#[]⟩, .bool false, .string ⟨#[]⟩, .bool false, .string ⟨#[]⟩], .int .i64 (checkA A)]) (by simp [results, Tryd.results19, go_sem, e0, e1, e2, e3, e4, e5, e6, e7, e8, e9, e10, zeroA]) rfl ⟨?_, below_setRow hS2 (Nat.le_refl _) _⟩
    rw [HM.out, if_pos hz0]
    rfl

set_option maxHeartbeats 1000000 in
set_option maxRecDepth 100000 in
theorem made_4 (s p : List UInt8) (v0 v1 v2 v3 : Bool) (l0 l1 l2 l3 : List UInt8) (b o c : Nat) (w : World) (hE : Env w) (hc : ∀ k, (h : k < ([(v0, l0), (v1, l1), (v2, l2), (v3, l3)] : List Tm).length) → w.cell? ⟨b, o + k * 2, none⟩ = some (.bool ([(v0, l0), (v1, l1), (v2, l2), (v3, l3)] : List Tm)[k].1) ∧ w.cell? ⟨b, o + k * 2 + 1, none⟩ = some (.string ⟨([(v0, l0), (v1, l1), (v2, l2), (v3, l3)] : List Tm)[k].2.toArray⟩)) (hs : s.length ≤ maxLen) (hp : p.length ≤ maxLen) (h0 : l0.length ≤ maxLen) (h1 : l1.length ≤ maxLen) (h2 : l2.length ≤ maxLen) (h3 : l3.length ≤ maxLen) :
    Calls Tryd.prog 19 #[.string ⟨s.toArray⟩, .string ⟨p.toArray⟩, .slice (some ⟨b, o, none⟩) 4 c] w (MadePost w (madeA s p [(v0, l0), (v1, l1), (v2, l2), (v3, l3)])) := by
  have hsl := fun b o W => sl_all b o W
  obtain ⟨A, hA⟩ : ∃ A, Hid (A = ((s, p, 4, (v0, l0), (v1, l1), (v2, l2), (v3, l3)) : Atm)) := ⟨_, rfl⟩
  have hM : madeA s p [(v0, l0), (v1, l1), (v2, l2), (v3, l3)] = if (checkA A != 0) = true then (zeroA, checkA A) else (A, 0) := by rw [hA.out]; rfl
  have HM := Lib.hid hM
  have hFit : FitsA A := by
    rw [hA.out]
    refine ⟨hs, hp, ?_⟩
    intro t ht
    have ht' : t ∈ [(v0, l0), (v1, l1), (v2, l2), (v3, l3)] := ht
    simp only [List.mem_cons, List.not_mem_nil, or_false] at ht'
    rcases ht' with rfl | rfl | rfl | rfl <;> first | exact Nat.zero_le _ | assumption
  have hW1 : ∀ (o1 o2 : Obj), Since w ((w.alloc o1).alloc o2) := fun o1 o2 => ((Since.refl _).alloc _).alloc _
  have HCK := Lib.hid (fun W (hEW : Env W) => check_any s p 4 v0 v1 v2 v3 l0 l1 l2 l3 W (by rw [← hA.out]; exact hFit) hEW)
  rw [← hA.out] at HCK
  have HSRC := Lib.hid hc
  clear hM hFit hc
  go_enter Tryd.func19, Tryd.ntmps19
  go_wp2_with (with_reducible refine wpList_copy_box (o := ⟨some 22, _, _, _, _, _⟩) rfl (.tmp 20) (.tmp 21) 36 36 rfl 23 2 Tryd.underlying36 tinfo2 _ 3 4 4 ⟨b, o, none⟩ 4 c rfl rfl _ _ [.bool v0, .string ⟨l0.toArray⟩, .bool v1, .string ⟨l1.toArray⟩, .bool v2, .string ⟨l2.toArray⟩, .bool v3, .string ⟨l3.toArray⟩] #[.string ⟨s.toArray⟩, .string ⟨p.toArray⟩, .int .i64 4, .bool v0, .string ⟨l0.toArray⟩, .bool v1, .string ⟨l1.toArray⟩, .bool v2, .string ⟨l2.toArray⟩, .bool v3, .string ⟨l3.toArray⟩] 4 rfl rfl ?k2 ?k3 ?k4 rfl ?_)
  case k2 => exact fun j v hj => (hW1 _ _).cell (src_cells [(v0, l0), (v1, l1), (v2, l2), (v3, l3)] o HSRC.out j v hj)
  case k3 => simp
  case k4 => simp [Value.oneCell']
  refine (HCK.out _ (hE.next (hW1 _ _))).mono ?_
  rintro e w1 ⟨rfl, hb⟩
  have hS2 := (hW1 _ _).trans hb
  have hblk : w1.heap[w.heap.size]? = some (.cells #[.string ⟨#[]⟩, .string ⟨#[]⟩, .int .i64 0, .bool false, .string ⟨#[]⟩, .bool false, .string ⟨#[]⟩, .bool false, .string ⟨#[]⟩, .bool false, .string ⟨#[]⟩] 26 (0, 0)) := by
    exact (Below.block hb w.heap.size (by rw [World.size_alloc, World.size_alloc]; omega)).trans (heap_alloc1 _ _ _)
  have HBLK := Lib.hid hblk
  have hsz1 : w.heap.size ≤ w1.heap.size := hS2.size
  clear hblk
  have hone1 : Hid ((#[.string ⟨s.toArray⟩, .string ⟨p.toArray⟩, .int .i64 4, .bool v0, .string ⟨l0.toArray⟩, .bool v1, .string ⟨l1.toArray⟩, .bool v2, .string ⟨l2.toArray⟩, .bool v3, .string ⟨l3.toArray⟩] : Array Value).all (·.oneCell') = true) := by show _ = _; simp [Value.oneCell']
  have hone0 : Hid ((#[.string ⟨#[]⟩, .string ⟨#[]⟩, .int .i64 0, .bool false, .string ⟨#[]⟩, .bool false, .string ⟨#[]⟩, .bool false, .string ⟨#[]⟩, .bool false, .string ⟨#[]⟩] : Array Value).all (·.oneCell') = true) := by show _ = _; simp [Value.oneCell']
  cases hz0 : (checkA A != 0)
  · have hbox := (box_new (w.alloc (.cells #[.string ⟨#[]⟩, .string ⟨#[]⟩, .int .i64 0, .bool false, .string ⟨#[]⟩, .bool false, .string ⟨#[]⟩, .bool false, .string ⟨#[]⟩, .bool false, .string ⟨#[]⟩] 26)) ((s, p, 4, (v0, l0), (v1, l1), (v2, l2), (v3, l3)) : Atm) 26).next hb
    rw [World.size_alloc] at hbox
    obtain ⟨b0, b1, b2, b3, b4, b5, b6, b7, b8, b9, b10⟩ := hbox.all
    go_wp2_with (refine wpList_store_row rfl 26 (.tmp 6) (.tmp 29) rfl w.heap.size #[.string ⟨s.toArray⟩, .string ⟨p.toArray⟩, .int .i64 4, .bool v0, .string ⟨l0.toArray⟩, .bool v1, .string ⟨l1.toArray⟩, .bool v2, .string ⟨l2.toArray⟩, .bool v3, .string ⟨l3.toArray⟩] rfl rfl 26 #[.string ⟨#[]⟩, .string ⟨#[]⟩, .int .i64 0, .bool false, .string ⟨#[]⟩, .bool false, .string ⟨#[]⟩, .bool false, .string ⟨#[]⟩, .bool false, .string ⟨#[]⟩] HBLK.out ainfo11 rfl hone1.out ?_)
    have hbx : Box (w1.setRow w.heap.size #[.string ⟨s.toArray⟩, .string ⟨p.toArray⟩, .int .i64 4, .bool v0, .string ⟨l0.toArray⟩, .bool v1, .string ⟨l1.toArray⟩, .bool v2, .string ⟨l2.toArray⟩, .bool v3, .string ⟨l3.toArray⟩]) w.heap.size ((s, p, 4, (v0, l0), (v1, l1), (v2, l2), (v3, l3)) : Atm) := box_of_heap (t := 26) (setRow_heap w1 w.heap.size _ #[.string ⟨s.toArray⟩, .string ⟨p.toArray⟩, .int .i64 4, .bool v0, .string ⟨l0.toArray⟩, .bool v1, .string ⟨l1.toArray⟩, .bool v2, .string ⟨l2.toArray⟩, .bool v3, .string ⟨l3.toArray⟩] 26 _ HBLK.out)
    obtain ⟨e0, e1, e2, e3, e4, e5, e6, e7, e8, e9, e10⟩ := hbx.all
    refine bodyPost_ret (v := .tuple #[.agg #[.string ⟨s.toArray⟩, .string ⟨p.toArray⟩, .int .i64 4, .bool v0, .string ⟨l0.toArray⟩, .bool v1, .string ⟨l1.toArray⟩, .bool v2, .string ⟨l2.toArray⟩, .bool v3, .string ⟨l3.toArray⟩], .int .i64 0]) (by simp [results, Tryd.results19, go_sem, e0, e1, e2, e3, e4, e5, e6, e7, e8, e9, e10]) rfl ⟨?_, below_setRow hS2 (Nat.le_refl _) _⟩
    rw [HM.out, if_neg (by rw [hz0]; simp), hA.out]
    rfl
  · go_wp2_with (refine wpList_store_row rfl 26 (.tmp 6) (.tmp 27) rfl w.heap.size #[.string ⟨#[]⟩, .string ⟨#[]⟩, .int .i64 0, .bool false, .string ⟨#[]⟩, .bool false, .string ⟨#[]⟩, .bool false, .string ⟨#[]⟩, .bool false, .string ⟨#[]⟩] rfl rfl 26 #[.string ⟨#[]⟩, .string ⟨#[]⟩, .int .i64 0, .bool false, .string ⟨#[]⟩, .bool false, .string ⟨#[]⟩, .bool false, .string ⟨#[]⟩, .bool false, .string ⟨#[]⟩] HBLK.out ainfo11 rfl hone0.out ?_)
    have hbx : Box (w1.setRow w.heap.size #[.string ⟨#[]⟩, .string ⟨#[]⟩, .int .i64 0, .bool false, .string ⟨#[]⟩, .bool false, .string ⟨#[]⟩, .bool false, .string ⟨#[]⟩, .bool false, .string ⟨#[]⟩]) w.heap.size zeroA := box_of_heap (t := 26) (setRow_heap w1 w.heap.size _ #[.string ⟨#[]⟩, .string ⟨#[]⟩, .int .i64 0, .bool false, .string ⟨#[]⟩, .bool false, .string ⟨#[]⟩, .bool false, .string ⟨#[]⟩, .bool false, .string ⟨#[]⟩] 26 _ HBLK.out)
    obtain ⟨e0, e1, e2, e3, e4, e5, e6, e7, e8, e9, e10⟩ := hbx.all
    refine bodyPost_ret (v := .tuple #[.agg #[.string ⟨#[]⟩, .string ⟨#[]⟩, .int .i64 0, .bool false, .string ⟨#[]⟩, .bool false, .string ⟨#[]⟩, .bool false, .string ⟨#[]⟩, .bool false, .string ⟨#[]⟩], .int .i64 (checkA A)]) (by simp [results, Tryd.results19, go_sem, e0, e1, e2, e3, e4, e5, e6, e7, e8, e9, e10, zeroA]) rfl ⟨?_, below_setRow hS2 (Nat.le_refl _) _⟩
    rw [HM.out, if_pos hz0]
    rfl

set_option maxHeartbeats 1000000 in
set_option maxRecDepth 100000 in
theorem made_long (s p : List UInt8) (a : Option Addr) (n c : Nat) (w : World) (h : (4 : Int) < n) (_hn : n ≤ maxLen) :
    Calls Tryd.prog 19 #[.string ⟨s.toArray⟩, .string ⟨p.toArray⟩, .slice a n c] w (MadePost w (zeroA, 4)) := by
  unfold maxLen at _hn
  go_enter Tryd.func19, Tryd.ntmps19
  go_wp2_with fail
  refine bodyPost_ret (v := .tuple #[.agg #[.string ⟨#[]⟩, .string ⟨#[]⟩, .int .i64 0, .bool false, .string ⟨#[]⟩, .bool false, .string ⟨#[]⟩, .bool false, .string ⟨#[]⟩, .bool false, .string ⟨#[]⟩], .int .i64 4]) (by simp [results, Tryd.results19, go_sem]) rfl ⟨rfl, (Since.refl _).alloc _⟩

/-- term.Made at every list of terms. -/
theorem made_any (s p : List UInt8) (v : Value) (L : List Tm) (w : World) (hE : Env w) (hv : TmRow w v L) (hs : s.length ≤ maxLen) (hp : p.length ≤ maxLen) (hL : ∀ t ∈ L, t.2.length ≤ maxLen) (hm : L.length ≤ maxLen) :
    Calls Tryd.prog 19 #[.string ⟨s.toArray⟩, .string ⟨p.toArray⟩, v] w (MadePost w (madeA s p L)) := by
  by_cases h4 : 4 < L.length
  · have e : madeA s p L = (zeroA, 4) := by rw [madeA, if_pos h4]
    rw [e]
    obtain ⟨a, c, rfl⟩ := hv.form
    exact made_long s p a L.length c w (by omega) hm
  · match L, hv, hL, h4 with
    | [], hv, _, _ =>
      obtain ⟨a, c, rfl⟩ := hv.form
      exact made_0 s p a c w hE hs hp
    | [(v0, l0)], hv, hL, _ =>
      obtain ⟨b, o, c, rfl, _, hc⟩ := hv.some (by simp)
      exact made_1 s p v0 l0 b o c w hE hc hs hp (hL (v0, l0) (by simp))
    | [(v0, l0), (v1, l1)], hv, hL, _ =>
      obtain ⟨b, o, c, rfl, _, hc⟩ := hv.some (by simp)
      exact made_2 s p v0 v1 l0 l1 b o c w hE hc hs hp (hL (v0, l0) (by simp)) (hL (v1, l1) (by simp))
    | [(v0, l0), (v1, l1), (v2, l2)], hv, hL, _ =>
      obtain ⟨b, o, c, rfl, _, hc⟩ := hv.some (by simp)
      exact made_3 s p v0 v1 v2 l0 l1 l2 b o c w hE hc hs hp (hL (v0, l0) (by simp)) (hL (v1, l1) (by simp)) (hL (v2, l2) (by simp))
    | [(v0, l0), (v1, l1), (v2, l2), (v3, l3)], hv, hL, _ =>
      obtain ⟨b, o, c, rfl, _, hc⟩ := hv.some (by simp)
      exact made_4 s p v0 v1 v2 v3 l0 l1 l2 l3 b o c w hE hc hs hp (hL (v0, l0) (by simp)) (hL (v1, l1) (by simp)) (hL (v2, l2) (by simp)) (hL (v3, l3) (by simp))
    | _ :: _ :: _ :: _ :: _ :: _, _, _, h4 => exact absurd (by simp) h4
end Go.Proofs.YtapkafdlbocmmaaDoor
