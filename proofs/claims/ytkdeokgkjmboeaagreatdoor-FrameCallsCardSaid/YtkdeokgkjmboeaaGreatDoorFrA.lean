/- Package frame: the reader: take, one, number, atom, end. Package frame: the reader's atom. -/
import Derived.Test.YtkdeokgkjmboeaaGreatDoorCertG
import Derived.Test.YtkdeokgkjmboeaaGreatDoorCertH3
namespace Go.Proofs.YtkdeokgkjmboeaaGreatDoor
open Go.RowKit

def eV (bad : Bool) : Value := .int .i64 (if bad then 15 else 0)
/-- The reader's block. -/
def RdF (W : World) (g : Nat) (s : List UInt8) (bad : Bool) : Prop := W.heap[g]? = some (.cells #[.string ⟨s.toArray⟩, eV bad] 53 (0, 0))
section
variable {W W' : World} {g : Nat} {s : List UInt8} {bad : Bool}
theorem RdF.c0 (h : RdF W g s bad) : W.cell? ⟨g, 0, none⟩ = some (.string ⟨s.toArray⟩) := by
  unfold RdF at h; simp [World.cell?, h]
theorem RdF.c1 (h : RdF W g s bad) : W.cell? ⟨g, 1, none⟩ = some (.int .i64 (if bad then 15 else 0)) := by
  unfold RdF at h; simp [World.cell?, h, eV]
theorem RdF.free (h : RdF W g s bad) (j : Nat) : W.frozen? ⟨g, j, none⟩ = false := by
  unfold RdF at h; simp [World.frozen?, h]
theorem RdF.lt (h : RdF W g s bad) : g < W.heap.size := (Array.getElem?_eq_some_iff.1 h).1
theorem RdF.grown {row : Option Nat} (h : RdF W g s bad) (hg : W.grownBy W' row) (hr : some g ≠ row) : RdF W' g s bad := (hg.block g h.lt hr).trans h
theorem RdF.next (h : RdF W g s bad) (hs : Since W W') : RdF W' g s bad := (Below.block hs g h.lt).trans h
theorem RdF.far (h : RdF W g s bad) {p : Addr} (hp : g ≠ p.block) (v : Value) : RdF (W.setCell p v) g s bad := (Below.heap_setCell W p v g hp).trans h
theorem RdF.set0 (h : RdF W g s bad) (r : List UInt8) : RdF (W.setCell ⟨g, 0, none⟩ (.string ⟨r.toArray⟩)) g r bad := by
  unfold RdF at h ⊢
  rw [setCell_eq_setRow W g 0 _ 53 (0, 0) _ h, setRow_heap W g _ _ 53 (0, 0) h]
  rfl
theorem RdF.set1 (h : RdF W g s bad) (b : Bool) : RdF (W.setCell ⟨g, 1, none⟩ (.int .i64 (if b then 15 else 0))) g s b := by
  unfold RdF at h ⊢
  rw [setCell_eq_setRow W g 1 _ 53 (0, 0) _ h, setRow_heap W g _ _ 53 (0, 0) h]
  rfl
end
/-- What take comes to: the bytes, what is left, is it bad. -/
def takeF (s : List UInt8) (bad : Bool) (n : Nat) : List UInt8 × List UInt8 × Bool := if bad then ([], s, true) else if s.length < n then ([], s, true) else (s.take n, s.drop n, false)
def TakePost (s : List UInt8) (bad : Bool) (n g : Nat) (w : World) (e : Ending) (w' : World) : Prop :=
  e = .returned (.string ⟨(takeF s bad n).1.toArray⟩) ∧ RdF w' g (takeF s bad n).2.1 (takeF s bad n).2.2 ∧ w.grownBy w' (some g)
set_option maxHeartbeats 1000000 in
theorem ftake_any (s : List UInt8) (bad : Bool) (n g : Nat) (w : World) (hR : RdF w g s bad) :
    Calls Tryz.prog 35 #[.pointer (some ⟨g, 0, none⟩), .int .i64 (n : Int)] w (TakePost s bad n g w) := by
  have c0 := hR.c0
  have c1 := hR.c1
  have hlt := hR.lt
  have hfree := hR.free
  have hg0 : w.grownBy w (some g) := World.grownBy.refl _ _
  cases bad
  case true =>
    have HP : Hid (TakePost s true n g w (.returned (.string ⟨#[]⟩)) w) := ⟨rfl, hR, hg0⟩
    simp only [if_true] at c1
    go_enter Tryz.func35, Tryz.ntmps35
    go_wp2_with fail
    go_ret
    exact HP.out
  case false =>
    simp only [Bool.false_eq_true, if_false] at c1
    by_cases hl : s.length < n
    · have HP : Hid (∀ W, RdF W g s true → w.grownBy W (some g) → TakePost s false n g w (.returned (.string ⟨#[]⟩)) W) := by
        intro W h1 h2
        unfold TakePost takeF
        rw [if_neg (by simp), if_pos hl]; exact ⟨rfl, h1, h2⟩
      have hd : decide ((s.length : Int) < (n : Int)) = true := by simp; omega
      go_enter Tryz.func35, Tryz.ntmps35
      go_wp2_with fail
      go_ret
      exact HP.out _ (hR.set1 true) (gset hg0 1 _)
    · have HP : Hid (∀ W, RdF W g (s.drop n) false → w.grownBy W (some g) → TakePost s false n g w (.returned (.string ⟨(s.take n).toArray⟩)) W) := by
        intro W h1 h2
        unfold TakePost takeF
        rw [if_neg (by simp), if_neg hl]; exact ⟨rfl, h1, h2⟩
      have hd : decide ((s.length : Int) < (n : Int)) = false := by simp; omega
      have hle : (n : Int) ≤ (s.length : Int) := by omega
      have hrest := fun W => run_rest s n (by omega) W
      have hsl := ext_bytes s 0 n
      rw [List.drop_zero] at hsl
      go_enter Tryz.func35, Tryz.ntmps35
      go_wp2_with fail
      go_ret
      exact HP.out _ (hR.set0 _) (gset hg0 0 _)
def atomF (s : List UInt8) (bad : Bool) : Atm × List UInt8 × Bool := if bad then (zeroAtm, s, true) else if (atomS s 0 false).2.2 then (zeroAtm, s, true) else ((atomS s 0 false).1, s.drop (atomS s 0 false).2.1, false)
def nmF (s : List UInt8) (bad : Bool) : Nat × List UInt8 × Bool := if bad then (0, s, true) else match readL s with | none => (0, s, true) | some (n, k) => (n, s.drop k, false)
/-- What one comes to. -/
def oneF (s : List UInt8) (bad : Bool) : Nat × List UInt8 × Bool := match s, bad with | c :: r, false => (c.toNat, r, false) | s, _ => (0, s, true)
def OnePost (s : List UInt8) (bad : Bool) (g : Nat) (w : World) (e : Ending) (w' : World) : Prop :=
  e = .returned (.int .i64 ((oneF s bad).1 : Int)) ∧ RdF w' g (oneF s bad).2.1 (oneF s bad).2.2 ∧ w.grownBy w' (some g)
theorem fone_any (s : List UInt8) (bad : Bool) (g : Nat) (w : World) (hR : RdF w g s bad) :
    Calls Tryz.prog 25 #[.pointer (some ⟨g, 0, none⟩)] w (OnePost s bad g w) := by
  have h := ftake_any s bad 1 g w hR
  unfold TakePost at h
  have hno : (bad = true ∨ s = []) → OnePost s bad g w = fun e w' => e = .returned (.int .i64 0) ∧ RdF w' g s true ∧ w.grownBy w' (some g) := by
    intro hc
    funext e w'
    unfold OnePost
    cases bad
    · rcases hc with hc | hc
      · cases hc
      · rw [hc]; rfl
    · cases s <;> rfl
  by_cases hc : bad = true ∨ s = []
  · have ht : takeF s bad 1 = ([], s, true) := by
      rcases hc with rfl | rfl
      · rfl
      · cases bad <;> rfl
    rw [ht] at h
    rw [hno hc]
    have H := Lib.hid h
    clear h hno hc ht
    go_enter Tryz.func25, Tryz.ntmps25
    go_wp2_with fail
    refine H.out.mono ?_
    rintro e w1 ⟨rfl, h1, h2⟩
    go_wp2_with fail
    go_ret
    exact ⟨rfl, h1, h2⟩
  · cases s with
    | nil => exact absurd (.inr rfl) hc
    | cons c r =>
      cases bad
      case true => exact absurd (.inl rfl) hc
      case false =>
        have ht : takeF (c :: r) false 1 = ([c], r, false) := by
          unfold takeF
          rw [if_neg (by simp), if_neg (by simp)]; rfl
        rw [ht] at h
        have H := Lib.hid h
        clear h hno hc ht
        go_enter Tryz.func25, Tryz.ntmps25
        go_wp2_with fail
        refine H.out.mono ?_
        rintro e w1 ⟨rfl, h1, h2⟩
        go_wp2_with fail
        go_ret
        exact ⟨ret_int (IntWalk.wrap64_in (c.toNat : Int) (by have := c.toNat_lt; omega)), h1, h2⟩
def NmPost (s : List UInt8) (bad : Bool) (g : Nat) (w : World) (e : Ending) (w' : World) : Prop :=
  e = .returned (.int .i64 ((nmF s bad).1 : Int)) ∧ RdF w' g (nmF s bad).2.1 (nmF s bad).2.2 ∧ w.grownBy w' (some g)
set_option maxHeartbeats 1000000 in
theorem fnum_any (s : List UInt8) (bad : Bool) (g : Nat) (w : World) (hs : s.length ≤ 1000000) (hR : RdF w g s bad) :
    Calls Tryz.prog 34 #[.pointer (some ⟨g, 0, none⟩)] w (NmPost s bad g w) := by
  have c0 := hR.c0
  have c1 := hR.c1
  have hlt := hR.lt
  have hfree := hR.free
  have hg0 : w.grownBy w (some g) := World.grownBy.refl _ _
  cases bad
  case true =>
    have HP : Hid (NmPost s true g w (.returned (.int .i64 0)) w) := ⟨rfl, hR, hg0⟩
    simp only [if_true] at c1
    go_enter Tryz.func34, Tryz.ntmps34
    go_wp2_with fail
    go_ret
    exact HP.out
  case false =>
    simp only [Bool.false_eq_true, if_false] at c1
    have HRN := Lib.hid (fun W => readnum_any s W (by unfold maxLen; omega))
    cases hr : readL s
    case none =>
      have HP : Hid (∀ W, RdF W g s true → w.grownBy W (some g) → NmPost s false g w (.returned (.int .i64 0)) W) := by
        intro W h1 h2
        unfold NmPost nmF
        rw [if_neg (by simp), hr]; exact ⟨rfl, h1, h2⟩
      rw [hr] at HRN
      simp only [rdV] at HRN
      have HT := Lib.hid (ftake_any s true 0 g (w.setCell ⟨g, 1, none⟩ (.int .i64 15)) (hR.set1 true))
      unfold TakePost takeF at HT
      simp only [if_true] at HT
      clear hr
      go_enter Tryz.func34, Tryz.ntmps34
      go_wp2_with fail
      refine (HRN.out _).mono ?_
      rintro e w1 ⟨rfl, rfl⟩
      go_wp2_with fail
      refine HT.out.mono ?_
      rintro e w2 ⟨rfl, h1, h2⟩
      go_wp2_with fail
      go_ret
      exact HP.out _ h1 (gtrans (gset hg0 1 _) h2)
    case some q =>
      obtain ⟨n, k⟩ := q
      obtain ⟨k1, n1, k5⟩ := readL_len hr
      have HP : Hid (∀ W, RdF W g (s.drop k) false → w.grownBy W (some g) → NmPost s false g w (.returned (.int .i64 (n : Int))) W) := by
        intro W h1 h2
        unfold NmPost nmF
        rw [if_neg (by simp), hr]; exact ⟨rfl, h1, h2⟩
      rw [hr] at HRN
      simp only [rdV] at HRN
      have HT := Lib.hid (ftake_any s false k g (w.setCell ⟨g, 1, none⟩ (.int .i64 0)) (hR.set1 false))
      unfold TakePost takeF at HT
      simp only [Bool.false_eq_true, if_false, if_neg (show ¬ s.length < k by omega)] at HT
      have ew : IntKind.i64.wrap (n : Int) = (n : Int) := IntWalk.i64_in _ (by omega)
      clear hr
      go_enter Tryz.func34, Tryz.ntmps34
      go_wp2_with fail
      refine (HRN.out _).mono ?_
      rintro e w1 ⟨rfl, rfl⟩
      go_wp2_with fail
      refine HT.out.mono ?_
      rintro e w2 ⟨rfl, h1, h2⟩
      go_wp2_with fail
      go_ret
      exact HP.out _ h1 (gtrans (gset hg0 1 _) h2)
def EndPost (s : List UInt8) (bad : Bool) (g : Nat) (w : World) (e : Ending) (w' : World) : Prop :=
  e = .returned (.tuple #[]) ∧ RdF w' g s (bad || !s.isEmpty) ∧ w.grownBy w' (some g)
theorem fend_any (s : List UInt8) (bad : Bool) (g : Nat) (w : World) (hR : RdF w g s bad) :
    Calls Tryz.prog 27 #[.pointer (some ⟨g, 0, none⟩)] w (EndPost s bad g w) := by
  have c0 := hR.c0
  have c1 := hR.c1
  have hlt := hR.lt
  have hfree := hR.free
  have hg0 : w.grownBy w (some g) := World.grownBy.refl _ _
  cases bad
  case true =>
    simp only [if_true] at c1
    have HP : Hid (RdF w g s (true || !s.isEmpty) ∧ w.grownBy w (some g)) := ⟨hR, hg0⟩
    go_enter Tryz.func27, Tryz.ntmps27
    go_wp2_with fail
    go_end0
    exact ⟨rfl, HP.out.1, HP.out.2⟩
  case false =>
    simp only [Bool.false_eq_true, if_false] at c1
    cases he : s.isEmpty
    · have HP : Hid (∀ W, RdF W g s true → w.grownBy W (some g) → EndPost s false g w (.returned (.tuple #[])) W) := fun W h1 h2 => ⟨rfl, by rw [he]; exact h1, h2⟩
      go_enter Tryz.func27, Tryz.ntmps27
      go_wp2_with fail
      go_end0
      exact HP.out _ (hR.set1 true) (gset hg0 1 _)
    · have HP : Hid (∀ W, RdF W g s false → w.grownBy W (some g) → EndPost s false g w (.returned (.tuple #[])) W) := fun W h1 h2 => ⟨rfl, by rw [he]; exact h1, h2⟩
      go_enter Tryz.func27, Tryz.ntmps27
      go_wp2_with fail
      go_end0
      exact HP.out _ hR hg0
end Go.Proofs.YtkdeokgkjmboeaaGreatDoor

namespace Go.Proofs.YtkdeokgkjmboeaaGreatDoor
open Go.RowKit

theorem RdF.row {W : World} {g B : Nat} {s : List UInt8} {bad : Bool} (h : RdF W g s bad) (hB : g ≠ B) (cs : Array Value) : RdF (W.setRow B cs) g s bad := (setRow_other W B g cs hB).trans h
def AtPost (s : List UInt8) (bad : Bool) (g : Nat) (w : World) (e : Ending) (w' : World) : Prop :=
  e = .returned (.agg (atmC (atomF s bad).1)) ∧ RdF w' g (atomF s bad).2.1 (atomF s bad).2.2 ∧ w.grownBy w' (some g)
set_option maxHeartbeats 4000000 in
set_option maxRecDepth 100000 in
theorem fatom_any (s : List UInt8) (bad : Bool) (g : Nat) (w : World) (hs : s.length ≤ 1000000) (hR : RdF w g s bad) (hE : Env w) :
    Calls Tryz.prog 26 #[.pointer (some ⟨g, 0, none⟩)] w (AtPost s bad g w) := by
  have hgl := hR.lt
  have hA : Since w (w.alloc (.cells #[.string ⟨#[]⟩, .string ⟨#[]⟩, .int .i64 0, .bool false, .string ⟨#[]⟩, .bool false, .string ⟨#[]⟩, .bool false, .string ⟨#[]⟩, .bool false, .string ⟨#[]⟩] 26)) := (Since.refl _).alloc _
  have hR1 := hR.next hA
  have hE1 := hE.next hA
  have hZ0 : BlkA (w.alloc (.cells #[.string ⟨#[]⟩, .string ⟨#[]⟩, .int .i64 0, .bool false, .string ⟨#[]⟩, .bool false, .string ⟨#[]⟩, .bool false, .string ⟨#[]⟩, .bool false, .string ⟨#[]⟩] 26)) w.heap.size zeroAtm := heap_alloc_new w _
  have c0 := hR1.c0
  have c1 := hR1.c1
  have hlt := hR1.lt
  have hfree := hR1.free
  have hg0 : w.grownBy (w.alloc (.cells #[.string ⟨#[]⟩, .string ⟨#[]⟩, .int .i64 0, .bool false, .string ⟨#[]⟩, .bool false, .string ⟨#[]⟩, .bool false, .string ⟨#[]⟩, .bool false, .string ⟨#[]⟩] 26)) (some g) := gsince (World.grownBy.refl _ _) hA
  cases bad
  case true =>
    have HP : Hid (∀ W, RdF W g s true → w.grownBy W (some g) → AtPost s true g w (.returned (.agg #[.string ⟨#[]⟩, .string ⟨#[]⟩, .int .i64 0, .bool false, .string ⟨#[]⟩, .bool false, .string ⟨#[]⟩, .bool false, .string ⟨#[]⟩, .bool false, .string ⟨#[]⟩])) W) := fun W h1 h2 => ⟨rfl, h1, h2⟩
    simp only [if_true] at c1
    have HZ0 : Hid ((w.alloc (.cells #[.string ⟨#[]⟩, .string ⟨#[]⟩, .int .i64 0, .bool false, .string ⟨#[]⟩, .bool false, .string ⟨#[]⟩, .bool false, .string ⟨#[]⟩, .bool false, .string ⟨#[]⟩] 26)).heap[w.heap.size]? = some (.cells #[.string ⟨#[]⟩, .string ⟨#[]⟩, .int .i64 0, .bool false, .string ⟨#[]⟩, .bool false, .string ⟨#[]⟩, .bool false, .string ⟨#[]⟩, .bool false, .string ⟨#[]⟩] 26 (0, 0))) := hZ0
    have hself : Hid ((w.alloc (.cells #[.string ⟨#[]⟩, .string ⟨#[]⟩, .int .i64 0, .bool false, .string ⟨#[]⟩, .bool false, .string ⟨#[]⟩, .bool false, .string ⟨#[]⟩, .bool false, .string ⟨#[]⟩] 26)).setRow w.heap.size #[.string ⟨#[]⟩, .string ⟨#[]⟩, .int .i64 0, .bool false, .string ⟨#[]⟩, .bool false, .string ⟨#[]⟩, .bool false, .string ⟨#[]⟩, .bool false, .string ⟨#[]⟩] = w.alloc (.cells #[.string ⟨#[]⟩, .string ⟨#[]⟩, .int .i64 0, .bool false, .string ⟨#[]⟩, .bool false, .string ⟨#[]⟩, .bool false, .string ⟨#[]⟩, .bool false, .string ⟨#[]⟩] 26)) := setRow_self _ w.heap.size _ _ _ HZ0.out
    have hone : Hid ((#[.string ⟨#[]⟩, .string ⟨#[]⟩, .int .i64 0, .bool false, .string ⟨#[]⟩, .bool false, .string ⟨#[]⟩, .bool false, .string ⟨#[]⟩, .bool false, .string ⟨#[]⟩] : Array Value).all (·.oneCell') = true) := by show _ = _; simp [Value.oneCell']
    go_enter Tryz.func26, Tryz.ntmps26
    go_wp2_with ((refine wpList_store_row rfl 26 (.tmp 2) (.tmp 11) rfl w.heap.size #[.string ⟨#[]⟩, .string ⟨#[]⟩, .int .i64 0, .bool false, .string ⟨#[]⟩, .bool false, .string ⟨#[]⟩, .bool false, .string ⟨#[]⟩, .bool false, .string ⟨#[]⟩] rfl rfl 26 _ HZ0.out ainfoA rfl hone.out ?_); rw [hself.out])
    refine bodyPost_ret (results_cell_row rfl _ _ w.heap.size 26 #[.string ⟨#[]⟩, .string ⟨#[]⟩, .int .i64 0, .bool false, .string ⟨#[]⟩, .bool false, .string ⟨#[]⟩, .bool false, .string ⟨#[]⟩, .bool false, .string ⟨#[]⟩] (0, 0) _ rfl HZ0.out Tryz.underlying26 rfl ainfoA) rfl ?_
    exact HP.out _ hR1 hg0
  case false =>
    simp only [Bool.false_eq_true, if_false] at c1
    cases hz : (atomS s 0 false).2.2
    case true =>
      have HP : Hid (∀ W, RdF W g s true → w.grownBy W (some g) → AtPost s false g w (.returned (.agg #[.string ⟨#[]⟩, .string ⟨#[]⟩, .int .i64 0, .bool false, .string ⟨#[]⟩, .bool false, .string ⟨#[]⟩, .bool false, .string ⟨#[]⟩, .bool false, .string ⟨#[]⟩])) W) := by
        intro W h1 h2
        unfold AtPost atomF
        rw [if_neg (by simp), hz, if_pos rfl]
        exact ⟨rfl, h1, h2⟩
      have HRA := Lib.hid (readatom_no s _ hs hE1 hz)
      clear hz
      go_enter Tryz.func26, Tryz.ntmps26
      go_wp2_with fail
      refine HRA.out.mono ?_
      rintro e w1 ⟨rfl, hb⟩
      have hR2 := hR1.next hb
      have hS1 := hA.trans hb
      have hZ1 := hZ0.next hb
      have hl1 := hR2.lt
      have hlz := hZ1.lt
      have hf2 := hR2.free
      have d1 := hR2.c1
      simp only [Bool.false_eq_true, if_false] at d1
      have hBx : BlkA ((w1.setCell ⟨g, 1, none⟩ (.int .i64 15)).alloc (.cells #[.string ⟨#[]⟩, .string ⟨#[]⟩, .int .i64 0, .bool false, .string ⟨#[]⟩, .bool false, .string ⟨#[]⟩, .bool false, .string ⟨#[]⟩, .bool false, .string ⟨#[]⟩] 26)) w1.heap.size zeroAtm := by
        have h := heap_alloc_new (w1.setCell ⟨g, 1, none⟩ (.int .i64 15)) (.cells #[.string ⟨#[]⟩, .string ⟨#[]⟩, .int .i64 0, .bool false, .string ⟨#[]⟩, .bool false, .string ⟨#[]⟩, .bool false, .string ⟨#[]⟩, .bool false, .string ⟨#[]⟩] 26)
        have hsz : (w1.setCell ⟨g, 1, none⟩ (.int .i64 15)).heap.size = w1.heap.size := by simp
        rw [hsz] at h
        exact h
      have hR3 := (hR2.set1 true).next (W' := (w1.setCell ⟨g, 1, none⟩ (.int .i64 15)).alloc (.cells #[.string ⟨#[]⟩, .string ⟨#[]⟩, .int .i64 0, .bool false, .string ⟨#[]⟩, .bool false, .string ⟨#[]⟩, .bool false, .string ⟨#[]⟩, .bool false, .string ⟨#[]⟩] 26)) ((Since.refl _).alloc _)
      have HT := Lib.hid (ftake_any s true 0 g _ hR3)
      unfold TakePost takeF at HT
      simp only [if_true] at HT
      clear c0 c1 hlt hfree hb
      go_wp2_with fail
      refine HT.out.mono ?_
      rintro e w2 ⟨rfl, h1, h2⟩
      have hB3 : BlkA w2 w1.heap.size zeroAtm := hBx.grown h2 (fun e => by injection e with e; omega)
      have hZ3 : BlkA w2 w.heap.size zeroAtm := ((hZ1.far (p := ⟨g, 1, none⟩) (by show w.heap.size ≠ g; omega) _).next ((Since.refl _).alloc _)).grown h2 (fun e => by injection e with e; omega)
      have HB3 : Hid (w2.heap[w1.heap.size]? = some (.cells #[.string ⟨#[]⟩, .string ⟨#[]⟩, .int .i64 0, .bool false, .string ⟨#[]⟩, .bool false, .string ⟨#[]⟩, .bool false, .string ⟨#[]⟩, .bool false, .string ⟨#[]⟩] 26 (0, 0))) := hB3
      have HZ3 : Hid (w2.heap[w.heap.size]? = some (.cells #[.string ⟨#[]⟩, .string ⟨#[]⟩, .int .i64 0, .bool false, .string ⟨#[]⟩, .bool false, .string ⟨#[]⟩, .bool false, .string ⟨#[]⟩, .bool false, .string ⟨#[]⟩] 26 (0, 0))) := hZ3
      have HF3 : Hid ((w2.setRow w.heap.size #[.string ⟨#[]⟩, .string ⟨#[]⟩, .int .i64 0, .bool false, .string ⟨#[]⟩, .bool false, .string ⟨#[]⟩, .bool false, .string ⟨#[]⟩, .bool false, .string ⟨#[]⟩]).heap[w.heap.size]? = some (.cells #[.string ⟨#[]⟩, .string ⟨#[]⟩, .int .i64 0, .bool false, .string ⟨#[]⟩, .bool false, .string ⟨#[]⟩, .bool false, .string ⟨#[]⟩, .bool false, .string ⟨#[]⟩] 26 (0, 0))) := setRow_heap _ _ _ _ _ (0, 0) HZ3.out
      have hone : Hid ((#[.string ⟨#[]⟩, .string ⟨#[]⟩, .int .i64 0, .bool false, .string ⟨#[]⟩, .bool false, .string ⟨#[]⟩, .bool false, .string ⟨#[]⟩, .bool false, .string ⟨#[]⟩] : Array Value).all (·.oneCell') = true) := by show _ = _; simp [Value.oneCell']
      have hg3 : w.grownBy w2 (some g) := gtrans (gsince (gset (gsince (World.grownBy.refl _ _) hS1) 1 _) ((Since.refl _).alloc _)) h2
      clear hB3 hZ3 hBx hZ1
      go_wp2_with (first
        | (refine wpList_load_row rfl 26 (.tmp 3) rfl w1.heap.size rfl 26 #[.string ⟨#[]⟩, .string ⟨#[]⟩, .int .i64 0, .bool false, .string ⟨#[]⟩, .bool false, .string ⟨#[]⟩, .bool false, .string ⟨#[]⟩, .bool false, .string ⟨#[]⟩] (0, 0) _ HB3.out Tryz.underlying26 rfl ainfoA ?_)
        | (refine wpList_store_row rfl 26 (.tmp 2) (.tmp 28) rfl w.heap.size #[.string ⟨#[]⟩, .string ⟨#[]⟩, .int .i64 0, .bool false, .string ⟨#[]⟩, .bool false, .string ⟨#[]⟩, .bool false, .string ⟨#[]⟩, .bool false, .string ⟨#[]⟩] rfl rfl 26 _ HZ3.out ainfoA rfl hone.out ?_))
      refine bodyPost_ret (results_cell_row rfl _ _ w.heap.size 26 #[.string ⟨#[]⟩, .string ⟨#[]⟩, .int .i64 0, .bool false, .string ⟨#[]⟩, .bool false, .string ⟨#[]⟩, .bool false, .string ⟨#[]⟩, .bool false, .string ⟨#[]⟩] (0, 0) _ rfl HF3.out Tryz.underlying26 rfl ainfoA) rfl ?_
      exact HP.out _ (h1.row (by omega) _) (grow_row hg3 (Nat.le_refl _) _)
    case false =>
      obtain ⟨⟨b_s, b_p, b_n, ⟨b_v0, b_l0⟩, ⟨b_v1, b_l1⟩, ⟨b_v2, b_l2⟩, ⟨b_v3, b_l3⟩⟩, k, hq⟩ : ∃ (b : Atm) (k : Nat), atomS s 0 false = (b, k, false) := ⟨_, _, Prod.ext rfl (Prod.ext rfl hz)⟩
      obtain ⟨_, hk, _⟩ := atomS_dec hq
      have HP : Hid (∀ W, RdF W g (s.drop k) false → w.grownBy W (some g) → AtPost s false g w (.returned (.agg #[.string ⟨b_s.toArray⟩, .string ⟨b_p.toArray⟩, .int .i64 b_n, .bool b_v0, .string ⟨b_l0.toArray⟩, .bool b_v1, .string ⟨b_l1.toArray⟩, .bool b_v2, .string ⟨b_l2.toArray⟩, .bool b_v3, .string ⟨b_l3.toArray⟩])) W) := by
        intro W h1 h2
        unfold AtPost atomF
        rw [if_neg (by simp), hq, if_neg (by simp)]
        exact ⟨rfl, h1, h2⟩
      have HRA := Lib.hid (readatom_yes s b_s b_p b_n b_v0 b_v1 b_v2 b_v3 b_l0 b_l1 b_l2 b_l3 k _ hs hE1 hq)
      clear hz hq
      go_enter Tryz.func26, Tryz.ntmps26
      go_wp2_with fail
      refine HRA.out.mono ?_
      rintro e w1 ⟨rfl, hb⟩
      have hR2 := hR1.next hb
      have hS1 := hA.trans hb
      have hZ1 := hZ0.next hb
      have hl1 := hR2.lt
      have hlz := hZ1.lt
      have hf2 := hR2.free
      have d1 := hR2.c1
      simp only [Bool.false_eq_true, if_false] at d1
      have hBx : BlkA ((w1.setCell ⟨g, 1, none⟩ (.int .i64 0)).alloc (.cells #[.string ⟨b_s.toArray⟩, .string ⟨b_p.toArray⟩, .int .i64 b_n, .bool b_v0, .string ⟨b_l0.toArray⟩, .bool b_v1, .string ⟨b_l1.toArray⟩, .bool b_v2, .string ⟨b_l2.toArray⟩, .bool b_v3, .string ⟨b_l3.toArray⟩] 26)) w1.heap.size ((b_s, b_p, b_n, (b_v0, b_l0), (b_v1, b_l1), (b_v2, b_l2), (b_v3, b_l3)) : Atm) := by
        have h := heap_alloc_new (w1.setCell ⟨g, 1, none⟩ (.int .i64 0)) (.cells #[.string ⟨b_s.toArray⟩, .string ⟨b_p.toArray⟩, .int .i64 b_n, .bool b_v0, .string ⟨b_l0.toArray⟩, .bool b_v1, .string ⟨b_l1.toArray⟩, .bool b_v2, .string ⟨b_l2.toArray⟩, .bool b_v3, .string ⟨b_l3.toArray⟩] 26)
        have hsz : (w1.setCell ⟨g, 1, none⟩ (.int .i64 0)).heap.size = w1.heap.size := by simp
        rw [hsz] at h
        exact h
      have hR3 := (hR2.set1 false).next (W' := (w1.setCell ⟨g, 1, none⟩ (.int .i64 0)).alloc (.cells #[.string ⟨b_s.toArray⟩, .string ⟨b_p.toArray⟩, .int .i64 b_n, .bool b_v0, .string ⟨b_l0.toArray⟩, .bool b_v1, .string ⟨b_l1.toArray⟩, .bool b_v2, .string ⟨b_l2.toArray⟩, .bool b_v3, .string ⟨b_l3.toArray⟩] 26)) ((Since.refl _).alloc _)
      have HT := Lib.hid (ftake_any s false k g _ hR3)
      unfold TakePost takeF at HT
      simp only [Bool.false_eq_true, if_false, if_neg (show ¬ s.length < k by omega)] at HT
      clear c0 c1 hlt hfree hb
      go_wp2_with fail
      refine HT.out.mono ?_
      rintro e w2 ⟨rfl, h1, h2⟩
      have hB3 : BlkA w2 w1.heap.size ((b_s, b_p, b_n, (b_v0, b_l0), (b_v1, b_l1), (b_v2, b_l2), (b_v3, b_l3)) : Atm) := hBx.grown h2 (fun e => by injection e with e; omega)
      have hZ3 : BlkA w2 w.heap.size zeroAtm := ((hZ1.far (p := ⟨g, 1, none⟩) (by show w.heap.size ≠ g; omega) _).next ((Since.refl _).alloc _)).grown h2 (fun e => by injection e with e; omega)
      have HB3 : Hid (w2.heap[w1.heap.size]? = some (.cells #[.string ⟨b_s.toArray⟩, .string ⟨b_p.toArray⟩, .int .i64 b_n, .bool b_v0, .string ⟨b_l0.toArray⟩, .bool b_v1, .string ⟨b_l1.toArray⟩, .bool b_v2, .string ⟨b_l2.toArray⟩, .bool b_v3, .string ⟨b_l3.toArray⟩] 26 (0, 0))) := hB3
      have HZ3 : Hid (w2.heap[w.heap.size]? = some (.cells #[.string ⟨#[]⟩, .string ⟨#[]⟩, .int .i64 0, .bool false, .string ⟨#[]⟩, .bool false, .string ⟨#[]⟩, .bool false, .string ⟨#[]⟩, .bool false, .string ⟨#[]⟩] 26 (0, 0))) := hZ3
      have HF3 : Hid ((w2.setRow w.heap.size #[.string ⟨b_s.toArray⟩, .string ⟨b_p.toArray⟩, .int .i64 b_n, .bool b_v0, .string ⟨b_l0.toArray⟩, .bool b_v1, .string ⟨b_l1.toArray⟩, .bool b_v2, .string ⟨b_l2.toArray⟩, .bool b_v3, .string ⟨b_l3.toArray⟩]).heap[w.heap.size]? = some (.cells #[.string ⟨b_s.toArray⟩, .string ⟨b_p.toArray⟩, .int .i64 b_n, .bool b_v0, .string ⟨b_l0.toArray⟩, .bool b_v1, .string ⟨b_l1.toArray⟩, .bool b_v2, .string ⟨b_l2.toArray⟩, .bool b_v3, .string ⟨b_l3.toArray⟩] 26 (0, 0))) := setRow_heap _ _ _ _ _ (0, 0) HZ3.out
      have hone : Hid ((#[.string ⟨b_s.toArray⟩, .string ⟨b_p.toArray⟩, .int .i64 b_n, .bool b_v0, .string ⟨b_l0.toArray⟩, .bool b_v1, .string ⟨b_l1.toArray⟩, .bool b_v2, .string ⟨b_l2.toArray⟩, .bool b_v3, .string ⟨b_l3.toArray⟩] : Array Value).all (·.oneCell') = true) := by show _ = _; simp [Value.oneCell']
      have hg3 : w.grownBy w2 (some g) := gtrans (gsince (gset (gsince (World.grownBy.refl _ _) hS1) 1 _) ((Since.refl _).alloc _)) h2
      clear hB3 hZ3 hBx hZ1
      go_wp2_with (first
        | (refine wpList_load_row rfl 26 (.tmp 3) rfl w1.heap.size rfl 26 #[.string ⟨b_s.toArray⟩, .string ⟨b_p.toArray⟩, .int .i64 b_n, .bool b_v0, .string ⟨b_l0.toArray⟩, .bool b_v1, .string ⟨b_l1.toArray⟩, .bool b_v2, .string ⟨b_l2.toArray⟩, .bool b_v3, .string ⟨b_l3.toArray⟩] (0, 0) _ HB3.out Tryz.underlying26 rfl ainfoA ?_)
        | (refine wpList_store_row rfl 26 (.tmp 2) (.tmp 28) rfl w.heap.size #[.string ⟨b_s.toArray⟩, .string ⟨b_p.toArray⟩, .int .i64 b_n, .bool b_v0, .string ⟨b_l0.toArray⟩, .bool b_v1, .string ⟨b_l1.toArray⟩, .bool b_v2, .string ⟨b_l2.toArray⟩, .bool b_v3, .string ⟨b_l3.toArray⟩] rfl rfl 26 _ HZ3.out ainfoA rfl hone.out ?_))
      refine bodyPost_ret (results_cell_row rfl _ _ w.heap.size 26 #[.string ⟨b_s.toArray⟩, .string ⟨b_p.toArray⟩, .int .i64 b_n, .bool b_v0, .string ⟨b_l0.toArray⟩, .bool b_v1, .string ⟨b_l1.toArray⟩, .bool b_v2, .string ⟨b_l2.toArray⟩, .bool b_v3, .string ⟨b_l3.toArray⟩] (0, 0) _ rfl HF3.out Tryz.underlying26 rfl ainfoA) rfl ?_
      exact HP.out _ (h1.row (by omega) _) (grow_row hg3 (Nat.le_refl _) _)
end Go.Proofs.YtkdeokgkjmboeaaGreatDoor
