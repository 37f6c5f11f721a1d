/- Unify: what makes two atoms one. -/
import Derived.Test.YtohcehjpdmhjlaaDoorUniI
import Derived.Test.YtohcehjpdmhjlaaDoorEq
import Derived.Test.YtohcehjpdmhjlaaDoorInv
import Derived.Deep.DeepCutAuto
import Derived.Deep.Light
namespace Go.Proofs.YtohcehjpdmhjlaaDoor
open Go.RowKit
attribute [local go_sem ↓] run_termEq'
attribute [local go_sem] eqT_self

theorem Cel.box {W : World} {B : Nat} {a : Atm} {T : TypeId} (h : Cel W B (atmC a) T) : Box W B a := by
  intro j hj
  rw [h.cell j, Array.getElem?_eq_getElem hj]
/-- What Unify comes to: the bindings and true, or none and false. -/
def UniPost (R : Option (List Bnd)) (w : World) (e : Ending) (w' : World) : Prop :=
  ∃ v r, e = .returned (.tuple #[v, .bool r]) ∧ Since w w' ∧ match R with | some m => r = true ∧ RowS w' v m | none => r = false ∧ v = .slice none 0 0
theorem uni_pairs {a b : Atm} {n : Nat} (hn : n ≤ 4) {k : Nat} (hk : k < n) : ∃ h : k < (((argsL a).zip (argsL b)).take n).length, ∃ h1 : k < (argsL a).length, ∃ h2 : k < (argsL b).length, (((argsL a).zip (argsL b)).take n)[k]'h = ((argsL a)[k]'h1, (argsL b)[k]'h2) := by
  have hl : (((argsL a).zip (argsL b)).take n).length = n := by rw [List.length_take, List.length_zip, argsL_len, argsL_len]; omega
  refine ⟨by rw [hl]; exact hk, by rw [argsL_len]; omega, by rw [argsL_len]; omega, ?_⟩
  rw [List.getElem_take, List.getElem_zip]
theorem pairs_len (a b : Atm) {n : Nat} (hn : n ≤ 4) : (((argsL a).zip (argsL b)).take n).length = n := by
  rw [List.length_take, List.length_zip, argsL_len, argsL_len]; omega
theorem Box.farg {W W' : World} {B : Nat} {a : Atm} {row : Option Nat} (h : Box W B a) (hg : W.grownBy W' row) (hr : some B ≠ row) : Box W' B a := fun j hj => by
  have hc := h j hj
  exact (World.cell?_of_block (hg.block B (World.block_lt_of_cell? _ _ hc) hr)).trans hc
theorem since_row {w0 W W' : World} {B : Nat} (h : Since w0 W) (hg : W.grownBy W' (some B)) (hB : w0.heap.size ≤ B) : Since w0 W' :=
  Below.grown h hg h.size fun k hk => by injection hk with hk; omega
theorem tinfo2 : (Tryd.prog.info? 23).map (·.size) = some 2 := by kernel_rfl
theorem Cel.newN {W : World} {B : Nat} {cs : Array Value} {T : TypeId} (h : W.heap.size = B) : Cel (W.alloc (.cells cs T)) B cs T := by
  subst h
  exact heap_alloc_new W _
theorem Cel.both {W : World} {g : Nat} {T : TypeId} {z0 z1 x0 x1 : Value} (h : Cel W g #[z0, z1] T) : Cel ((W.setCell ⟨g, 0, none⟩ x0).setCell ⟨g, 1, none⟩ x1) g #[x0, x1] T := (h.set (ds := #[x0, z1]) rfl).set rfl
theorem two_sets {W : World} {g1 g2 : Nat} {T : TypeId} {z0 z1 z2 z3 : Value} (x0 x1 y0 y1 : Value) (h1 : Cel W g1 #[z0, z1] T) (h2 : Cel W g2 #[z2, z3] T) (hne : g2 ≠ g1) :
    ((W.setCell ⟨g1, 0, none⟩ x0).setCell ⟨g1, 1, none⟩ x1).cell? ⟨g2, 0, none⟩ = some z2 ∧ ((W.setCell ⟨g1, 0, none⟩ x0).setCell ⟨g1, 1, none⟩ x1).cell? ⟨g2, 1, none⟩ = some z3 ∧ (∀ j, ((W.setCell ⟨g1, 0, none⟩ x0).setCell ⟨g1, 1, none⟩ x1).frozen? ⟨g2, j, none⟩ = false) ∧
      g2 < ((W.setCell ⟨g1, 0, none⟩ x0).setCell ⟨g1, 1, none⟩ x1).heap.size ∧
      Cel ((((W.setCell ⟨g1, 0, none⟩ x0).setCell ⟨g1, 1, none⟩ x1).setCell ⟨g2, 0, none⟩ y0).setCell ⟨g2, 1, none⟩ y1) g1 #[x0, x1] T ∧
      Cel ((((W.setCell ⟨g1, 0, none⟩ x0).setCell ⟨g1, 1, none⟩ x1).setCell ⟨g2, 0, none⟩ y0).setCell ⟨g2, 1, none⟩ y1) g2 #[y0, y1] T := by
  have h2' : Cel ((W.setCell ⟨g1, 0, none⟩ x0).setCell ⟨g1, 1, none⟩ x1) g2 #[z2, z3] T := (h2.far hne _).far hne _
  have h1' : Cel ((W.setCell ⟨g1, 0, none⟩ x0).setCell ⟨g1, 1, none⟩ x1) g1 #[x0, x1] T := (h1.set (ds := #[x0, z1]) rfl).set rfl
  exact ⟨h2'.two.1, h2'.two.2, h2'.free, h2'.lt, (h1'.far (fun e => hne e.symm) _).far (fun e => hne e.symm) _, (h2'.set (ds := #[y0, z3]) rfl).set rfl⟩
set_option maxHeartbeats 8000000 in
set_option maxRecDepth 100000 in
theorem unify_main (s p : List UInt8) (n : Nat) (a_v0 a_v1 a_v2 a_v3 : Bool) (a_l0 a_l1 a_l2 a_l3 : List UInt8) (b_v0 b_v1 b_v2 b_v3 : Bool) (b_l0 b_l1 b_l2 b_l3 : List UInt8) (hn : n ≤ 4) (w : World)
    (hP : NamedP (((argsL ((s, p, (n : Int), (a_v0, a_l0), (a_v1, a_l1), (a_v2, a_l2), (a_v3, a_l3)) : Atm)).zip (argsL ((s, p, (n : Int), (b_v0, b_l0), (b_v1, b_l1), (b_v2, b_l2), (b_v3, b_l3)) : Atm))).take n)) :
    Calls Tryd.prog 16 #[.agg #[.string ⟨s.toArray⟩, .string ⟨p.toArray⟩, .int .i64 (n : Int), .bool a_v0, .string ⟨a_l0.toArray⟩, .bool a_v1, .string ⟨a_l1.toArray⟩, .bool a_v2, .string ⟨a_l2.toArray⟩, .bool a_v3, .string ⟨a_l3.toArray⟩], .agg #[.string ⟨s.toArray⟩, .string ⟨p.toArray⟩, .int .i64 (n : Int), .bool b_v0, .string ⟨b_l0.toArray⟩, .bool b_v1, .string ⟨b_l1.toArray⟩, .bool b_v2, .string ⟨b_l2.toArray⟩, .bool b_v3, .string ⟨b_l3.toArray⟩]] w (UniPost (uniF (((argsL ((s, p, (n : Int), (a_v0, a_l0), (a_v1, a_l1), (a_v2, a_l2), (a_v3, a_l3)) : Atm)).zip (argsL ((s, p, (n : Int), (b_v0, b_l0), (b_v1, b_l1), (b_v2, b_l2), (b_v3, b_l3)) : Atm))).take n) []) w) := by
  have hat := fun k (hk : k < n) => uni_pairs (a := ((s, p, (n : Int), (a_v0, a_l0), (a_v1, a_l1), (a_v2, a_l2), (a_v3, a_l3)) : Atm)) (b := ((s, p, (n : Int), (b_v0, b_l0), (b_v1, b_l1), (b_v2, b_l2), (b_v3, b_l3)) : Atm)) hn hk
  have hPl := pairs_len ((s, p, (n : Int), (a_v0, a_l0), (a_v1, a_l1), (a_v2, a_l2), (a_v3, a_l3)) : Atm) ((s, p, (n : Int), (b_v0, b_l0), (b_v1, b_l1), (b_v2, b_l2), (b_v3, b_l3)) : Atm) hn
  obtain ⟨P, hP0⟩ : ∃ P, Hid (P = (((argsL ((s, p, (n : Int), (a_v0, a_l0), (a_v1, a_l1), (a_v2, a_l2), (a_v3, a_l3)) : Atm)).zip (argsL ((s, p, (n : Int), (b_v0, b_l0), (b_v1, b_l1), (b_v2, b_l2), (b_v3, b_l3)) : Atm))).take n)) := ⟨_, rfl⟩
  rw [← hP0.out] at hP hPl ⊢
  rw [← hP0.out] at hat
  have HNP := Lib.hid hP
  obtain ⟨R, hR⟩ : ∃ R, Hid (R = uniF P []) := ⟨_, rfl⟩
  have hR0 : Hid (R = uniF (P.drop 0) []) := hR
  rw [← hR.out]
  have hS3 : Since w (((w.alloc (.cells #[.string ⟨s.toArray⟩, .string ⟨p.toArray⟩, .int .i64 (n : Int), .bool a_v0, .string ⟨a_l0.toArray⟩, .bool a_v1, .string ⟨a_l1.toArray⟩, .bool a_v2, .string ⟨a_l2.toArray⟩, .bool a_v3, .string ⟨a_l3.toArray⟩] 26)).alloc (.cells #[.string ⟨s.toArray⟩, .string ⟨p.toArray⟩, .int .i64 (n : Int), .bool b_v0, .string ⟨b_l0.toArray⟩, .bool b_v1, .string ⟨b_l1.toArray⟩, .bool b_v2, .string ⟨b_l2.toArray⟩, .bool b_v3, .string ⟨b_l3.toArray⟩] 26)).alloc (.cells #[.slice none 0 0] 41)) := (((Since.refl _).alloc _).alloc _).alloc _
  have hBa : Hid (Box (((w.alloc (.cells #[.string ⟨s.toArray⟩, .string ⟨p.toArray⟩, .int .i64 (n : Int), .bool a_v0, .string ⟨a_l0.toArray⟩, .bool a_v1, .string ⟨a_l1.toArray⟩, .bool a_v2, .string ⟨a_l2.toArray⟩, .bool a_v3, .string ⟨a_l3.toArray⟩] 26)).alloc (.cells #[.string ⟨s.toArray⟩, .string ⟨p.toArray⟩, .int .i64 (n : Int), .bool b_v0, .string ⟨b_l0.toArray⟩, .bool b_v1, .string ⟨b_l1.toArray⟩, .bool b_v2, .string ⟨b_l2.toArray⟩, .bool b_v3, .string ⟨b_l3.toArray⟩] 26)).alloc (.cells #[.slice none 0 0] 41)) w.heap.size ((s, p, (n : Int), (a_v0, a_l0), (a_v1, a_l1), (a_v2, a_l2), (a_v3, a_l3)) : Atm)) := Lib.hid (Box.next (box_new w ((s, p, (n : Int), (a_v0, a_l0), (a_v1, a_l1), (a_v2, a_l2), (a_v3, a_l3)) : Atm) 26) (((Since.refl _).alloc _).alloc _))
  have hBb : Hid (Box (((w.alloc (.cells #[.string ⟨s.toArray⟩, .string ⟨p.toArray⟩, .int .i64 (n : Int), .bool a_v0, .string ⟨a_l0.toArray⟩, .bool a_v1, .string ⟨a_l1.toArray⟩, .bool a_v2, .string ⟨a_l2.toArray⟩, .bool a_v3, .string ⟨a_l3.toArray⟩] 26)).alloc (.cells #[.string ⟨s.toArray⟩, .string ⟨p.toArray⟩, .int .i64 (n : Int), .bool b_v0, .string ⟨b_l0.toArray⟩, .bool b_v1, .string ⟨b_l1.toArray⟩, .bool b_v2, .string ⟨b_l2.toArray⟩, .bool b_v3, .string ⟨b_l3.toArray⟩] 26)).alloc (.cells #[.slice none 0 0] 41)) (w.heap.size + 1) ((s, p, (n : Int), (b_v0, b_l0), (b_v1, b_l1), (b_v2, b_l2), (b_v3, b_l3)) : Atm)) := by
    have h := box_new (w.alloc (.cells #[.string ⟨s.toArray⟩, .string ⟨p.toArray⟩, .int .i64 (n : Int), .bool a_v0, .string ⟨a_l0.toArray⟩, .bool a_v1, .string ⟨a_l1.toArray⟩, .bool a_v2, .string ⟨a_l2.toArray⟩, .bool a_v3, .string ⟨a_l3.toArray⟩] 26)) ((s, p, (n : Int), (b_v0, b_l0), (b_v1, b_l1), (b_v2, b_l2), (b_v3, b_l3)) : Atm) 26
    rw [World.size_alloc] at h
    exact Box.next h ((Since.refl _).alloc _)
  have hBa2 := Box.all (box_new w ((s, p, (n : Int), (a_v0, a_l0), (a_v1, a_l1), (a_v2, a_l2), (a_v3, a_l3)) : Atm) 26 |>.next ((Since.refl _).alloc (.cells #[.string ⟨s.toArray⟩, .string ⟨p.toArray⟩, .int .i64 (n : Int), .bool b_v0, .string ⟨b_l0.toArray⟩, .bool b_v1, .string ⟨b_l1.toArray⟩, .bool b_v2, .string ⟨b_l2.toArray⟩, .bool b_v3, .string ⟨b_l3.toArray⟩] 26)))
  have hBb2 : Box ((w.alloc (.cells #[.string ⟨s.toArray⟩, .string ⟨p.toArray⟩, .int .i64 (n : Int), .bool a_v0, .string ⟨a_l0.toArray⟩, .bool a_v1, .string ⟨a_l1.toArray⟩, .bool a_v2, .string ⟨a_l2.toArray⟩, .bool a_v3, .string ⟨a_l3.toArray⟩] 26)).alloc (.cells #[.string ⟨s.toArray⟩, .string ⟨p.toArray⟩, .int .i64 (n : Int), .bool b_v0, .string ⟨b_l0.toArray⟩, .bool b_v1, .string ⟨b_l1.toArray⟩, .bool b_v2, .string ⟨b_l2.toArray⟩, .bool b_v3, .string ⟨b_l3.toArray⟩] 26)) (w.heap.size + 1) ((s, p, (n : Int), (b_v0, b_l0), (b_v1, b_l1), (b_v2, b_l2), (b_v3, b_l3)) : Atm) := by
    have h := box_new (w.alloc (.cells #[.string ⟨s.toArray⟩, .string ⟨p.toArray⟩, .int .i64 (n : Int), .bool a_v0, .string ⟨a_l0.toArray⟩, .bool a_v1, .string ⟨a_l1.toArray⟩, .bool a_v2, .string ⟨a_l2.toArray⟩, .bool a_v3, .string ⟨a_l3.toArray⟩] 26)) ((s, p, (n : Int), (b_v0, b_l0), (b_v1, b_l1), (b_v2, b_l2), (b_v3, b_l3)) : Atm) 26
    rw [World.size_alloc] at h
    exact h
  have hC : Hid (Cel (((w.alloc (.cells #[.string ⟨s.toArray⟩, .string ⟨p.toArray⟩, .int .i64 (n : Int), .bool a_v0, .string ⟨a_l0.toArray⟩, .bool a_v1, .string ⟨a_l1.toArray⟩, .bool a_v2, .string ⟨a_l2.toArray⟩, .bool a_v3, .string ⟨a_l3.toArray⟩] 26)).alloc (.cells #[.string ⟨s.toArray⟩, .string ⟨p.toArray⟩, .int .i64 (n : Int), .bool b_v0, .string ⟨b_l0.toArray⟩, .bool b_v1, .string ⟨b_l1.toArray⟩, .bool b_v2, .string ⟨b_l2.toArray⟩, .bool b_v3, .string ⟨b_l3.toArray⟩] 26)).alloc (.cells #[.slice none 0 0] 41)) (w.heap.size + 2) #[.slice none 0 0] 41) := by
    have h := heap_alloc_new ((w.alloc (.cells #[.string ⟨s.toArray⟩, .string ⟨p.toArray⟩, .int .i64 (n : Int), .bool a_v0, .string ⟨a_l0.toArray⟩, .bool a_v1, .string ⟨a_l1.toArray⟩, .bool a_v2, .string ⟨a_l2.toArray⟩, .bool a_v3, .string ⟨a_l3.toArray⟩] 26)).alloc (.cells #[.string ⟨s.toArray⟩, .string ⟨p.toArray⟩, .int .i64 (n : Int), .bool b_v0, .string ⟨b_l0.toArray⟩, .bool b_v1, .string ⟨b_l1.toArray⟩, .bool b_v2, .string ⟨b_l2.toArray⟩, .bool b_v3, .string ⟨b_l3.toArray⟩] 26)) (.cells #[.slice none 0 0] 41)
    rw [World.size_alloc, World.size_alloc] at h
    exact h
  have hBa3 := hBa.out.n
  have hi0 : decide ((n : Int) < 0) = false := decide_eq_false (by omega)
  have hi4 : decide ((4 : Int) < (n : Int)) = false := decide_eq_false (by omega)
  have a0 := hBa2.1
  have a1 := hBa2.2.1
  have a2 := hBa2.2.2.1
  have b0 := hBb2.s
  have b1 := hBb2.p
  have b2 := hBb2.n
  clear hP hR hP0 hBb2 hBa2
  go_enter Tryd.func16, Tryd.ntmps16
  go_wp2_with fail
  generalize (((w.alloc (.cells #[.string ⟨s.toArray⟩, .string ⟨p.toArray⟩, .int .i64 (n : Int), .bool a_v0, .string ⟨a_l0.toArray⟩, .bool a_v1, .string ⟨a_l1.toArray⟩, .bool a_v2, .string ⟨a_l2.toArray⟩, .bool a_v3, .string ⟨a_l3.toArray⟩] 26)).alloc (.cells #[.string ⟨s.toArray⟩, .string ⟨p.toArray⟩, .int .i64 (n : Int), .bool b_v0, .string ⟨b_l0.toArray⟩, .bool b_v1, .string ⟨b_l1.toArray⟩, .bool b_v2, .string ⟨b_l2.toArray⟩, .bool b_v3, .string ⟨b_l3.toArray⟩] 26)).alloc (.cells #[.slice none 0 0] 41)) = w3 at *
  go_loopw [44] (fun i wr => ∃ (k : Nat) (v : Value) (l : List Bnd), k ≤ n ∧ i = .int .i64 (k : Int) ∧ Since w wr ∧ Hid (Box wr w.heap.size ((s, p, (n : Int), (a_v0, a_l0), (a_v1, a_l1), (a_v2, a_l2), (a_v3, a_l3)) : Atm)) ∧ Hid (Box wr (w.heap.size + 1) ((s, p, (n : Int), (b_v0, b_l0), (b_v1, b_l1), (b_v2, b_l2), (b_v3, b_l3)) : Atm)) ∧ Hid (Cel wr (w.heap.size + 2) #[v] 41) ∧ Hid (RowS wr v l) ∧ Hid (InvB l) ∧ Hid (l.length ≤ k) ∧ Hid (R = uniF (P.drop k) l)) (fun i _ => n - (intOf i).toNat)
  case atStart => exact ⟨0, _, [], by omega, rfl, hS3, hBa.out, hBb.out, hC.out, ⟨RowOf.nil, .inl ⟨rfl, rfl⟩⟩, InvB.nil, Nat.le_refl _, hR0.out⟩
  case round =>
    clear hBa hBb hC hBa3 hR0 a0 a1 a2 b0 b1 b2
    obtain ⟨k, v, l, hk, rfl, hS, hBa, hBb, hC, hV, hI, hL, hres⟩ := hrel
    have c0 := hC.out.one
    by_cases hlt : k < n
    · have hlt2 : (k : Int) < (n : Int) := by omega
      obtain ⟨q0, q1, q2, q3⟩ := hat k hlt
      obtain ⟨d0, d1⟩ := hBa.out.args.2 k q1
      obtain ⟨e0, e1⟩ := hBb.out.args.2 k q2
      have hnm := HNP.out _ (List.getElem_mem q0)
      have hdr := List.drop_eq_getElem_cons q0
      rw [q3] at hnm hdr
      have hk4 : k < 4 := by omega
      have hk4i : (k : Int) < 4 := by omega
      generalize (argsL ((s, p, (n : Int), (a_v0, a_l0), (a_v1, a_l1), (a_v2, a_l2), (a_v3, a_l3)) : Atm))[k]'q1 = t1 at *
      generalize (argsL ((s, p, (n : Int), (b_v0, b_l0), (b_v1, b_l1), (b_v2, b_l2), (b_v3, b_l3)) : Atm))[k]'q2 = t2 at *
      rw [hdr, uniF] at hres
      clear q3 hdr
      obtain ⟨v1, m1⟩ := t1
      obtain ⟨v2, m2⟩ := t2
      simp only at d0 d1 e0 e1 hnm hres
      have HT1 := Lib.hid (fun W (h : RowS W v l) => sterm_any v l v1 m1 W h.1 hI.out.1 (by have := hL.out; omega))
      have HT2 := Lib.hid (fun W (h : RowS W v l) => sterm_any v l v2 m2 W h.1 hI.out.1 (by have := hL.out; omega))
      have hM1 : Hid (¬ termS l (v1, m1) = termS l (v2, m2) → (termS l (v1, m1)).1 = true → MayB l (termS l (v1, m1)).2 (termS l (v2, m2))) := fun hne hv => uni_may1 (p := ((v1, m1), (v2, m2))) hI.out hnm.1 hnm.2 hne hv
      have hM2 : Hid (¬ termS l (v1, m1) = termS l (v2, m2) → (termS l (v2, m2)).1 = true → MayB l (termS l (v2, m2)).2 (termS l (v1, m1))) := fun hne hv => uni_may2 (p := ((v1, m1), (v2, m2))) hI.out hnm.1 hnm.2 hne hv
      generalize termS l (v1, m1) = x at *
      generalize termS l (v2, m2) = y at *
      obtain ⟨xv, xt⟩ := x
      obtain ⟨yv, yt⟩ := y
      simp only [tmV] at HT1 HT2
      simp only at hM1 hM2 hres
      have HRES := Lib.hid hres.out
      clear hres hnm
      have hSo := hS
      go_wp2_with fail
      refine wp_region_invX (X := Value × Value × Value × Value × Value × Value × Value × Value × Value × Value × Value × Value × Value × Value × Nat × Nat) (fun a0 x => match x with | (x47, x48, x49, x50, x51, x52, x53, x54, x55, x56, x57, x58, x9, x10, g9, g10) => Act.put (Act.put (Act.put (Act.put (Act.put (Act.put (Act.put (Act.put (Act.put (Act.put (Act.put (Act.put (Act.put (Act.put (a0) (some 47) x47) (some 48) x48) (some 49) x49) (some 50) x50) (some 51) x51) (some 52) x52) (some 53) x53) (some 54) x54) (some 55) x55) (some 56) x56) (some 57) x57) (some 58) x58) (some 9) x9) (some 10) x10) (fun x L W => match x with | (x47, x48, x49, x50, x51, x52, x53, x54, x55, x56, x57, x58, x9, x10, g9, g10) => Since (wr) W ∧ (L.getD 0 false = true → x47 = v) ∧ (L.getD 1 false = true → x48 = .int .i64 (k : Int)) ∧ (L.getD 2 false = true → x49 = .pointer (some ⟨w.heap.size, 3, none⟩)) ∧ (L.getD 3 false = true → x50 = .pointer (some ⟨w.heap.size, 3 + k * 2, none⟩)) ∧ (L.getD 4 false = true → x51 = .agg #[.bool v1, .string ⟨m1.toArray⟩]) ∧ (L.getD 5 false = true → x52 = .agg #[.bool xv, .string ⟨xt.toArray⟩]) ∧ (L.getD 6 false = true → x53 = v) ∧ (L.getD 7 false = true → x54 = .int .i64 (k : Int)) ∧ (L.getD 8 false = true → x55 = .pointer (some ⟨w.heap.size + 1, 3, none⟩)) ∧ (L.getD 9 false = true → x56 = .pointer (some ⟨w.heap.size + 1, 3 + k * 2, none⟩)) ∧ (L.getD 10 false = true → x57 = .agg #[.bool v2, .string ⟨m2.toArray⟩]) ∧ (L.getD 11 false = true → x58 = .agg #[.bool yv, .string ⟨yt.toArray⟩]) ∧ (L.getD 12 false = true → x9 = .pointer (some ⟨g9, 0, none⟩) ∧ (wr).heap.size ≤ g9 ∧ g9 < W.heap.size) ∧ (L.getD 14 false = true → L.getD 12 false = true) ∧ (L.getD 12 false = true → L.getD 14 false = false → Cel W g9 #[.bool false, .string ⟨#[]⟩] 23) ∧ (L.getD 14 false = true → Cel W g9 #[.bool xv, .string ⟨xt.toArray⟩] 23) ∧ (L.getD 13 false = true → x10 = .pointer (some ⟨g10, 0, none⟩) ∧ (wr).heap.size ≤ g10 ∧ g10 < W.heap.size) ∧ (L.getD 15 false = true → L.getD 13 false = true) ∧ (L.getD 13 false = true → L.getD 15 false = false → Cel W g10 #[.bool false, .string ⟨#[]⟩] 23) ∧ (L.getD 15 false = true → Cel W g10 #[.bool yv, .string ⟨yt.toArray⟩] 23) ∧ (L.getD 12 false = true → L.getD 13 false = true → g9 ≠ g10)) (by kernel_rfl) (by kernel_rfl) ?start ?steps ?stop
      case start => exact fun b v hv => ⟨(v 47, v 48, v 49, v 50, v 51, v 52, v 53, v 54, v 55, v 56, v 57, v 58, v 9, v 10, 0, 0), (by simp only [hv]), (Since.refl _).drew, fun h => none_yet h, fun h => none_yet h, fun h => none_yet h, fun h => none_yet h, fun h => none_yet h, fun h => none_yet h, fun h => none_yet h, fun h => none_yet h, fun h => none_yet h, fun h => none_yet h, fun h => none_yet h, fun h => none_yet h, fun h => none_yet h, fun h => none_yet h, fun h => none_yet h, fun h => none_yet h, fun h => none_yet h, fun h => none_yet h, fun h => none_yet h, fun h => none_yet h, fun h => none_yet h⟩
      case steps =>
        refine ⟨⟨rfl, ?_⟩, ⟨rfl, ?_⟩, ⟨rfl, ?_⟩, ⟨rfl, ?_⟩, ⟨rfl, ?_⟩, ⟨rfl, ?_⟩, ⟨rfl, ?_⟩, ⟨rfl, ?_⟩, ⟨rfl, ?_⟩, ⟨rfl, ?_⟩, ⟨rfl, ?_⟩, ⟨rfl, ?_⟩, ⟨rfl, ?_⟩, ⟨rfl, ?_⟩, ⟨rfl, ?_⟩, ⟨rfl, ?_⟩, trivial⟩
        · intro L x W hJ hlt hk hd K' hK
          obtain ⟨x47, x48, x49, x50, x51, x52, x53, x54, x55, x56, x57, x58, x9, x10, g9, g10⟩ := x
          obtain ⟨hS, f0, f1, f2, f3, f4, f5, f6, f7, f8, f9, f10, f11, p12, q12, z12, c12, p13, q13, z13, c13, n12_13⟩ := hJ
          have h0 := hS.cell c0
          refine ⟨?_⟩
          simp only [Act.put, List.setIfInBounds_toArray, List.set_cons_zero, List.set_cons_succ]
          go_simp
          refine kput (hK ((v), x48, x49, x50, x51, x52, x53, x54, x55, x56, x57, x58, x9, x10, g9, g10) _ ⟨hS, fun _ => rfl, fun h => f1 (not_k h (by decide)), fun h => f2 (not_k h (by decide)), fun h => f3 (not_k h (by decide)), fun h => f4 (not_k h (by decide)), fun h => f5 (not_k h (by decide)), fun h => f6 (not_k h (by decide)), fun h => f7 (not_k h (by decide)), fun h => f8 (not_k h (by decide)), fun h => f9 (not_k h (by decide)), fun h => f10 (not_k h (by decide)), fun h => f11 (not_k h (by decide)), fun h => p12 (not_k h (by decide)), fun h => getD_set_true (q12 (not_k h (by decide))), fun h h2 => z12 (not_k h (by decide)) (not_k' h2 (by decide)), fun h => c12 (not_k h (by decide)), fun h => p13 (not_k h (by decide)), fun h => getD_set_true (q13 (not_k h (by decide))), fun h h2 => z13 (not_k h (by decide)) (not_k' h2 (by decide)), fun h => c13 (not_k h (by decide)), fun h h2 => n12_13 (not_k h (by decide)) (not_k h2 (by decide))⟩) ?_
          simp only [Act.put, List.setIfInBounds_toArray, List.set_cons_zero, List.set_cons_succ]
        · intro L x W hJ hlt hk hd K' hK
          obtain ⟨x47, x48, x49, x50, x51, x52, x53, x54, x55, x56, x57, x58, x9, x10, g9, g10⟩ := x
          obtain ⟨hS, f0, f1, f2, f3, f4, f5, f6, f7, f8, f9, f10, f11, p12, q12, z12, c12, p13, q13, z13, c13, n12_13⟩ := hJ
          refine ⟨?_⟩
          simp only [Act.put, List.setIfInBounds_toArray, List.set_cons_zero, List.set_cons_succ]
          go_simp
          refine kput (hK (x47, (.int .i64 (k : Int)), x49, x50, x51, x52, x53, x54, x55, x56, x57, x58, x9, x10, g9, g10) _ ⟨hS, fun h => f0 (not_k h (by decide)), fun _ => rfl, fun h => f2 (not_k h (by decide)), fun h => f3 (not_k h (by decide)), fun h => f4 (not_k h (by decide)), fun h => f5 (not_k h (by decide)), fun h => f6 (not_k h (by decide)), fun h => f7 (not_k h (by decide)), fun h => f8 (not_k h (by decide)), fun h => f9 (not_k h (by decide)), fun h => f10 (not_k h (by decide)), fun h => f11 (not_k h (by decide)), fun h => p12 (not_k h (by decide)), fun h => getD_set_true (q12 (not_k h (by decide))), fun h h2 => z12 (not_k h (by decide)) (not_k' h2 (by decide)), fun h => c12 (not_k h (by decide)), fun h => p13 (not_k h (by decide)), fun h => getD_set_true (q13 (not_k h (by decide))), fun h h2 => z13 (not_k h (by decide)) (not_k' h2 (by decide)), fun h => c13 (not_k h (by decide)), fun h h2 => n12_13 (not_k h (by decide)) (not_k h2 (by decide))⟩) ?_
          simp only [Act.put, List.setIfInBounds_toArray, List.set_cons_zero, List.set_cons_succ]
        · intro L x W hJ hlt hk hd K' hK
          obtain ⟨x47, x48, x49, x50, x51, x52, x53, x54, x55, x56, x57, x58, x9, x10, g9, g10⟩ := x
          obtain ⟨hS, f0, f1, f2, f3, f4, f5, f6, f7, f8, f9, f10, f11, p12, q12, z12, c12, p13, q13, z13, c13, n12_13⟩ := hJ
          refine ⟨?_⟩
          simp only [Act.put, List.setIfInBounds_toArray, List.set_cons_zero, List.set_cons_succ]
          go_simp
          refine kput (hK (x47, x48, (.pointer (some ⟨w.heap.size, 3, none⟩)), x50, x51, x52, x53, x54, x55, x56, x57, x58, x9, x10, g9, g10) _ ⟨hS, fun h => f0 (not_k h (by decide)), fun h => f1 (not_k h (by decide)), fun _ => rfl, fun h => f3 (not_k h (by decide)), fun h => f4 (not_k h (by decide)), fun h => f5 (not_k h (by decide)), fun h => f6 (not_k h (by decide)), fun h => f7 (not_k h (by decide)), fun h => f8 (not_k h (by decide)), fun h => f9 (not_k h (by decide)), fun h => f10 (not_k h (by decide)), fun h => f11 (not_k h (by decide)), fun h => p12 (not_k h (by decide)), fun h => getD_set_true (q12 (not_k h (by decide))), fun h h2 => z12 (not_k h (by decide)) (not_k' h2 (by decide)), fun h => c12 (not_k h (by decide)), fun h => p13 (not_k h (by decide)), fun h => getD_set_true (q13 (not_k h (by decide))), fun h h2 => z13 (not_k h (by decide)) (not_k' h2 (by decide)), fun h => c13 (not_k h (by decide)), fun h h2 => n12_13 (not_k h (by decide)) (not_k h2 (by decide))⟩) ?_
          simp only [Act.put, List.setIfInBounds_toArray, List.set_cons_zero, List.set_cons_succ]
        · intro L x W hJ hlt hk hd K' hK
          obtain ⟨x47, x48, x49, x50, x51, x52, x53, x54, x55, x56, x57, x58, x9, x10, g9, g10⟩ := x
          obtain ⟨hS, f0, f1, f2, f3, f4, f5, f6, f7, f8, f9, f10, f11, p12, q12, z12, c12, p13, q13, z13, c13, n12_13⟩ := hJ
          have d2 : L.getD 2 false = true := dep_of hd 2 (by rfl)
          obtain rfl := (f2 d2).symm
          have d1 : L.getD 1 false = true := dep_of hd 1 (by rfl)
          obtain rfl := (f1 d1).symm
          refine ⟨?_⟩
          simp only [Act.put, List.setIfInBounds_toArray, List.set_cons_zero, List.set_cons_succ]
          go_simp
          refine kput (hK (x47, (.int .i64 (k : Int)), (.pointer (some ⟨w.heap.size, 3, none⟩)), (.pointer (some ⟨w.heap.size, 3 + k * 2, none⟩)), x51, x52, x53, x54, x55, x56, x57, x58, x9, x10, g9, g10) _ ⟨hS, fun h => f0 (not_k h (by decide)), fun h => f1 (not_k h (by decide)), fun h => f2 (not_k h (by decide)), fun _ => rfl, fun h => f4 (not_k h (by decide)), fun h => f5 (not_k h (by decide)), fun h => f6 (not_k h (by decide)), fun h => f7 (not_k h (by decide)), fun h => f8 (not_k h (by decide)), fun h => f9 (not_k h (by decide)), fun h => f10 (not_k h (by decide)), fun h => f11 (not_k h (by decide)), fun h => p12 (not_k h (by decide)), fun h => getD_set_true (q12 (not_k h (by decide))), fun h h2 => z12 (not_k h (by decide)) (not_k' h2 (by decide)), fun h => c12 (not_k h (by decide)), fun h => p13 (not_k h (by decide)), fun h => getD_set_true (q13 (not_k h (by decide))), fun h h2 => z13 (not_k h (by decide)) (not_k' h2 (by decide)), fun h => c13 (not_k h (by decide)), fun h h2 => n12_13 (not_k h (by decide)) (not_k h2 (by decide))⟩) ?_
          simp only [Act.put, List.setIfInBounds_toArray, List.set_cons_zero, List.set_cons_succ]
        · intro L x W hJ hlt hk hd K' hK
          obtain ⟨x47, x48, x49, x50, x51, x52, x53, x54, x55, x56, x57, x58, x9, x10, g9, g10⟩ := x
          obtain ⟨hS, f0, f1, f2, f3, f4, f5, f6, f7, f8, f9, f10, f11, p12, q12, z12, c12, p13, q13, z13, c13, n12_13⟩ := hJ
          have d3 : L.getD 3 false = true := dep_of hd 3 (by rfl)
          obtain rfl := (f3 d3).symm
          have h0 := hS.cell d0
          have h1 := hS.cell d1
          refine ⟨?_⟩
          simp only [Act.put, List.setIfInBounds_toArray, List.set_cons_zero, List.set_cons_succ]
          go_simp
          refine kput (hK (x47, x48, x49, (.pointer (some ⟨w.heap.size, 3 + k * 2, none⟩)), (.agg #[.bool v1, .string ⟨m1.toArray⟩]), x52, x53, x54, x55, x56, x57, x58, x9, x10, g9, g10) _ ⟨hS, fun h => f0 (not_k h (by decide)), fun h => f1 (not_k h (by decide)), fun h => f2 (not_k h (by decide)), fun h => f3 (not_k h (by decide)), fun _ => rfl, fun h => f5 (not_k h (by decide)), fun h => f6 (not_k h (by decide)), fun h => f7 (not_k h (by decide)), fun h => f8 (not_k h (by decide)), fun h => f9 (not_k h (by decide)), fun h => f10 (not_k h (by decide)), fun h => f11 (not_k h (by decide)), fun h => p12 (not_k h (by decide)), fun h => getD_set_true (q12 (not_k h (by decide))), fun h h2 => z12 (not_k h (by decide)) (not_k' h2 (by decide)), fun h => c12 (not_k h (by decide)), fun h => p13 (not_k h (by decide)), fun h => getD_set_true (q13 (not_k h (by decide))), fun h h2 => z13 (not_k h (by decide)) (not_k' h2 (by decide)), fun h => c13 (not_k h (by decide)), fun h h2 => n12_13 (not_k h (by decide)) (not_k h2 (by decide))⟩) ?_
          simp only [Act.put, List.setIfInBounds_toArray, List.set_cons_zero, List.set_cons_succ]
        · intro L x W hJ hlt hk hd K' hK
          obtain ⟨x47, x48, x49, x50, x51, x52, x53, x54, x55, x56, x57, x58, x9, x10, g9, g10⟩ := x
          obtain ⟨hS, f0, f1, f2, f3, f4, f5, f6, f7, f8, f9, f10, f11, p12, q12, z12, c12, p13, q13, z13, c13, n12_13⟩ := hJ
          have d0 : L.getD 0 false = true := dep_of hd 0 (by rfl)
          obtain rfl := (f0 d0).symm
          have d4 : L.getD 4 false = true := dep_of hd 4 (by rfl)
          obtain rfl := (f4 d4).symm
          refine ⟨?_⟩
          simp only [Act.put, List.setIfInBounds_toArray, List.set_cons_zero, List.set_cons_succ]
          (go_simp; go_at_call 34; refine (HT1.out _ (hV.out.next hS)).mono ?_; rintro e w2 ⟨rfl, hb⟩; (try go_simp))
          refine kput (hK ((v), x48, x49, x50, (.agg #[.bool v1, .string ⟨m1.toArray⟩]), (.agg #[.bool xv, .string ⟨xt.toArray⟩]), x53, x54, x55, x56, x57, x58, x9, x10, g9, g10) _ ⟨hS.trans hb, fun h => f0 (not_k h (by decide)), fun h => f1 (not_k h (by decide)), fun h => f2 (not_k h (by decide)), fun h => f3 (not_k h (by decide)), fun h => f4 (not_k h (by decide)), fun _ => rfl, fun h => f6 (not_k h (by decide)), fun h => f7 (not_k h (by decide)), fun h => f8 (not_k h (by decide)), fun h => f9 (not_k h (by decide)), fun h => f10 (not_k h (by decide)), fun h => f11 (not_k h (by decide)), fun h => ⟨(p12 (not_k h (by decide))).1, (p12 (not_k h (by decide))).2.1, Nat.lt_of_lt_of_le (p12 (not_k h (by decide))).2.2 hb.size⟩, fun h => getD_set_true (q12 (not_k h (by decide))), fun h h2 => (z12 (not_k h (by decide)) (not_k' h2 (by decide))).next hb, fun h => (c12 (not_k h (by decide))).next hb, fun h => ⟨(p13 (not_k h (by decide))).1, (p13 (not_k h (by decide))).2.1, Nat.lt_of_lt_of_le (p13 (not_k h (by decide))).2.2 hb.size⟩, fun h => getD_set_true (q13 (not_k h (by decide))), fun h h2 => (z13 (not_k h (by decide)) (not_k' h2 (by decide))).next hb, fun h => (c13 (not_k h (by decide))).next hb, fun h h2 => n12_13 (not_k h (by decide)) (not_k h2 (by decide))⟩) ?_
          simp only [Act.put, List.setIfInBounds_toArray, List.set_cons_zero, List.set_cons_succ]
        · intro L x W hJ hlt hk hd K' hK
          obtain ⟨x47, x48, x49, x50, x51, x52, x53, x54, x55, x56, x57, x58, x9, x10, g9, g10⟩ := x
          obtain ⟨hS, f0, f1, f2, f3, f4, f5, f6, f7, f8, f9, f10, f11, p12, q12, z12, c12, p13, q13, z13, c13, n12_13⟩ := hJ
          have h0 := hS.cell c0
          refine ⟨?_⟩
          simp only [Act.put, List.setIfInBounds_toArray, List.set_cons_zero, List.set_cons_succ]
          go_simp
          refine kput (hK (x47, x48, x49, x50, x51, x52, (v), x54, x55, x56, x57, x58, x9, x10, g9, g10) _ ⟨hS, fun h => f0 (not_k h (by decide)), fun h => f1 (not_k h (by decide)), fun h => f2 (not_k h (by decide)), fun h => f3 (not_k h (by decide)), fun h => f4 (not_k h (by decide)), fun h => f5 (not_k h (by decide)), fun _ => rfl, fun h => f7 (not_k h (by decide)), fun h => f8 (not_k h (by decide)), fun h => f9 (not_k h (by decide)), fun h => f10 (not_k h (by decide)), fun h => f11 (not_k h (by decide)), fun h => p12 (not_k h (by decide)), fun h => getD_set_true (q12 (not_k h (by decide))), fun h h2 => z12 (not_k h (by decide)) (not_k' h2 (by decide)), fun h => c12 (not_k h (by decide)), fun h => p13 (not_k h (by decide)), fun h => getD_set_true (q13 (not_k h (by decide))), fun h h2 => z13 (not_k h (by decide)) (not_k' h2 (by decide)), fun h => c13 (not_k h (by decide)), fun h h2 => n12_13 (not_k h (by decide)) (not_k h2 (by decide))⟩) ?_
          simp only [Act.put, List.setIfInBounds_toArray, List.set_cons_zero, List.set_cons_succ]
        · intro L x W hJ hlt hk hd K' hK
          obtain ⟨x47, x48, x49, x50, x51, x52, x53, x54, x55, x56, x57, x58, x9, x10, g9, g10⟩ := x
          obtain ⟨hS, f0, f1, f2, f3, f4, f5, f6, f7, f8, f9, f10, f11, p12, q12, z12, c12, p13, q13, z13, c13, n12_13⟩ := hJ
          refine ⟨?_⟩
          simp only [Act.put, List.setIfInBounds_toArray, List.set_cons_zero, List.set_cons_succ]
          go_simp
          refine kput (hK (x47, x48, x49, x50, x51, x52, x53, (.int .i64 (k : Int)), x55, x56, x57, x58, x9, x10, g9, g10) _ ⟨hS, fun h => f0 (not_k h (by decide)), fun h => f1 (not_k h (by decide)), fun h => f2 (not_k h (by decide)), fun h => f3 (not_k h (by decide)), fun h => f4 (not_k h (by decide)), fun h => f5 (not_k h (by decide)), fun h => f6 (not_k h (by decide)), fun _ => rfl, fun h => f8 (not_k h (by decide)), fun h => f9 (not_k h (by decide)), fun h => f10 (not_k h (by decide)), fun h => f11 (not_k h (by decide)), fun h => p12 (not_k h (by decide)), fun h => getD_set_true (q12 (not_k h (by decide))), fun h h2 => z12 (not_k h (by decide)) (not_k' h2 (by decide)), fun h => c12 (not_k h (by decide)), fun h => p13 (not_k h (by decide)), fun h => getD_set_true (q13 (not_k h (by decide))), fun h h2 => z13 (not_k h (by decide)) (not_k' h2 (by decide)), fun h => c13 (not_k h (by decide)), fun h h2 => n12_13 (not_k h (by decide)) (not_k h2 (by decide))⟩) ?_
          simp only [Act.put, List.setIfInBounds_toArray, List.set_cons_zero, List.set_cons_succ]
        · intro L x W hJ hlt hk hd K' hK
          obtain ⟨x47, x48, x49, x50, x51, x52, x53, x54, x55, x56, x57, x58, x9, x10, g9, g10⟩ := x
          obtain ⟨hS, f0, f1, f2, f3, f4, f5, f6, f7, f8, f9, f10, f11, p12, q12, z12, c12, p13, q13, z13, c13, n12_13⟩ := hJ
          refine ⟨?_⟩
          simp only [Act.put, List.setIfInBounds_toArray, List.set_cons_zero, List.set_cons_succ]
          go_simp
          refine kput (hK (x47, x48, x49, x50, x51, x52, x53, x54, (.pointer (some ⟨w.heap.size + 1, 3, none⟩)), x56, x57, x58, x9, x10, g9, g10) _ ⟨hS, fun h => f0 (not_k h (by decide)), fun h => f1 (not_k h (by decide)), fun h => f2 (not_k h (by decide)), fun h => f3 (not_k h (by decide)), fun h => f4 (not_k h (by decide)), fun h => f5 (not_k h (by decide)), fun h => f6 (not_k h (by decide)), fun h => f7 (not_k h (by decide)), fun _ => rfl, fun h => f9 (not_k h (by decide)), fun h => f10 (not_k h (by decide)), fun h => f11 (not_k h (by decide)), fun h => p12 (not_k h (by decide)), fun h => getD_set_true (q12 (not_k h (by decide))), fun h h2 => z12 (not_k h (by decide)) (not_k' h2 (by decide)), fun h => c12 (not_k h (by decide)), fun h => p13 (not_k h (by decide)), fun h => getD_set_true (q13 (not_k h (by decide))), fun h h2 => z13 (not_k h (by decide)) (not_k' h2 (by decide)), fun h => c13 (not_k h (by decide)), fun h h2 => n12_13 (not_k h (by decide)) (not_k h2 (by decide))⟩) ?_
          simp only [Act.put, List.setIfInBounds_toArray, List.set_cons_zero, List.set_cons_succ]
        · intro L x W hJ hlt hk hd K' hK
          obtain ⟨x47, x48, x49, x50, x51, x52, x53, x54, x55, x56, x57, x58, x9, x10, g9, g10⟩ := x
          obtain ⟨hS, f0, f1, f2, f3, f4, f5, f6, f7, f8, f9, f10, f11, p12, q12, z12, c12, p13, q13, z13, c13, n12_13⟩ := hJ
          have d8 : L.getD 8 false = true := dep_of hd 8 (by rfl)
          obtain rfl := (f8 d8).symm
          have d7 : L.getD 7 false = true := dep_of hd 7 (by rfl)
          obtain rfl := (f7 d7).symm
          refine ⟨?_⟩
          simp only [Act.put, List.setIfInBounds_toArray, List.set_cons_zero, List.set_cons_succ]
          go_simp
          refine kput (hK (x47, x48, x49, x50, x51, x52, x53, (.int .i64 (k : Int)), (.pointer (some ⟨w.heap.size + 1, 3, none⟩)), (.pointer (some ⟨w.heap.size + 1, 3 + k * 2, none⟩)), x57, x58, x9, x10, g9, g10) _ ⟨hS, fun h => f0 (not_k h (by decide)), fun h => f1 (not_k h (by decide)), fun h => f2 (not_k h (by decide)), fun h => f3 (not_k h (by decide)), fun h => f4 (not_k h (by decide)), fun h => f5 (not_k h (by decide)), fun h => f6 (not_k h (by decide)), fun h => f7 (not_k h (by decide)), fun h => f8 (not_k h (by decide)), fun _ => rfl, fun h => f10 (not_k h (by decide)), fun h => f11 (not_k h (by decide)), fun h => p12 (not_k h (by decide)), fun h => getD_set_true (q12 (not_k h (by decide))), fun h h2 => z12 (not_k h (by decide)) (not_k' h2 (by decide)), fun h => c12 (not_k h (by decide)), fun h => p13 (not_k h (by decide)), fun h => getD_set_true (q13 (not_k h (by decide))), fun h h2 => z13 (not_k h (by decide)) (not_k' h2 (by decide)), fun h => c13 (not_k h (by decide)), fun h h2 => n12_13 (not_k h (by decide)) (not_k h2 (by decide))⟩) ?_
          simp only [Act.put, List.setIfInBounds_toArray, List.set_cons_zero, List.set_cons_succ]
        · intro L x W hJ hlt hk hd K' hK
          obtain ⟨x47, x48, x49, x50, x51, x52, x53, x54, x55, x56, x57, x58, x9, x10, g9, g10⟩ := x
          obtain ⟨hS, f0, f1, f2, f3, f4, f5, f6, f7, f8, f9, f10, f11, p12, q12, z12, c12, p13, q13, z13, c13, n12_13⟩ := hJ
          have d9 : L.getD 9 false = true := dep_of hd 9 (by rfl)
          obtain rfl := (f9 d9).symm
          have h0 := hS.cell e0
          have h1 := hS.cell e1
          refine ⟨?_⟩
          simp only [Act.put, List.setIfInBounds_toArray, List.set_cons_zero, List.set_cons_succ]
          go_simp
          refine kput (hK (x47, x48, x49, x50, x51, x52, x53, x54, x55, (.pointer (some ⟨w.heap.size + 1, 3 + k * 2, none⟩)), (.agg #[.bool v2, .string ⟨m2.toArray⟩]), x58, x9, x10, g9, g10) _ ⟨hS, fun h => f0 (not_k h (by decide)), fun h => f1 (not_k h (by decide)), fun h => f2 (not_k h (by decide)), fun h => f3 (not_k h (by decide)), fun h => f4 (not_k h (by decide)), fun h => f5 (not_k h (by decide)), fun h => f6 (not_k h (by decide)), fun h => f7 (not_k h (by decide)), fun h => f8 (not_k h (by decide)), fun h => f9 (not_k h (by decide)), fun _ => rfl, fun h => f11 (not_k h (by decide)), fun h => p12 (not_k h (by decide)), fun h => getD_set_true (q12 (not_k h (by decide))), fun h h2 => z12 (not_k h (by decide)) (not_k' h2 (by decide)), fun h => c12 (not_k h (by decide)), fun h => p13 (not_k h (by decide)), fun h => getD_set_true (q13 (not_k h (by decide))), fun h h2 => z13 (not_k h (by decide)) (not_k' h2 (by decide)), fun h => c13 (not_k h (by decide)), fun h h2 => n12_13 (not_k h (by decide)) (not_k h2 (by decide))⟩) ?_
          simp only [Act.put, List.setIfInBounds_toArray, List.set_cons_zero, List.set_cons_succ]
        · intro L x W hJ hlt hk hd K' hK
          obtain ⟨x47, x48, x49, x50, x51, x52, x53, x54, x55, x56, x57, x58, x9, x10, g9, g10⟩ := x
          obtain ⟨hS, f0, f1, f2, f3, f4, f5, f6, f7, f8, f9, f10, f11, p12, q12, z12, c12, p13, q13, z13, c13, n12_13⟩ := hJ
          have d6 : L.getD 6 false = true := dep_of hd 6 (by rfl)
          obtain rfl := (f6 d6).symm
          have d10 : L.getD 10 false = true := dep_of hd 10 (by rfl)
          obtain rfl := (f10 d10).symm
          refine ⟨?_⟩
          simp only [Act.put, List.setIfInBounds_toArray, List.set_cons_zero, List.set_cons_succ]
          (go_simp; go_at_call 34; refine (HT2.out _ (hV.out.next hS)).mono ?_; rintro e w2 ⟨rfl, hb⟩; (try go_simp))
          refine kput (hK (x47, x48, x49, x50, x51, x52, (v), x54, x55, x56, (.agg #[.bool v2, .string ⟨m2.toArray⟩]), (.agg #[.bool yv, .string ⟨yt.toArray⟩]), x9, x10, g9, g10) _ ⟨hS.trans hb, fun h => f0 (not_k h (by decide)), fun h => f1 (not_k h (by decide)), fun h => f2 (not_k h (by decide)), fun h => f3 (not_k h (by decide)), fun h => f4 (not_k h (by decide)), fun h => f5 (not_k h (by decide)), fun h => f6 (not_k h (by decide)), fun h => f7 (not_k h (by decide)), fun h => f8 (not_k h (by decide)), fun h => f9 (not_k h (by decide)), fun h => f10 (not_k h (by decide)), fun _ => rfl, fun h => ⟨(p12 (not_k h (by decide))).1, (p12 (not_k h (by decide))).2.1, Nat.lt_of_lt_of_le (p12 (not_k h (by decide))).2.2 hb.size⟩, fun h => getD_set_true (q12 (not_k h (by decide))), fun h h2 => (z12 (not_k h (by decide)) (not_k' h2 (by decide))).next hb, fun h => (c12 (not_k h (by decide))).next hb, fun h => ⟨(p13 (not_k h (by decide))).1, (p13 (not_k h (by decide))).2.1, Nat.lt_of_lt_of_le (p13 (not_k h (by decide))).2.2 hb.size⟩, fun h => getD_set_true (q13 (not_k h (by decide))), fun h h2 => (z13 (not_k h (by decide)) (not_k' h2 (by decide))).next hb, fun h => (c13 (not_k h (by decide))).next hb, fun h h2 => n12_13 (not_k h (by decide)) (not_k h2 (by decide))⟩) ?_
          simp only [Act.put, List.setIfInBounds_toArray, List.set_cons_zero, List.set_cons_succ]
        · intro L x W hJ hlt hk hd K' hK
          obtain ⟨x47, x48, x49, x50, x51, x52, x53, x54, x55, x56, x57, x58, x9, x10, g9, g10⟩ := x
          obtain ⟨hS, f0, f1, f2, f3, f4, f5, f6, f7, f8, f9, f10, f11, p12, q12, z12, c12, p13, q13, z13, c13, n12_13⟩ := hJ
          refine ⟨?_⟩
          simp only [Act.put, List.setIfInBounds_toArray, List.set_cons_zero, List.set_cons_succ]
          go_simp
          have hb : Since W (W.alloc (.cells #[.bool false, .string ⟨#[]⟩] 23)) := (Since.refl _).alloc _
          refine kput (hK (x47, x48, x49, x50, x51, x52, x53, x54, x55, x56, x57, x58, (.pointer (some ⟨W.heap.size, 0, none⟩)), x10, W.heap.size, g10) _ ⟨hS.trans hb, fun h => f0 (not_k h (by decide)), fun h => f1 (not_k h (by decide)), fun h => f2 (not_k h (by decide)), fun h => f3 (not_k h (by decide)), fun h => f4 (not_k h (by decide)), fun h => f5 (not_k h (by decide)), fun h => f6 (not_k h (by decide)), fun h => f7 (not_k h (by decide)), fun h => f8 (not_k h (by decide)), fun h => f9 (not_k h (by decide)), fun h => f10 (not_k h (by decide)), fun h => f11 (not_k h (by decide)), fun _ => ⟨rfl, hS.size, by simp⟩, fun h => getD_set_true (q12 (not_k h (by decide))), fun _ _ => heap_alloc_new W _, fun h => absurd (q12 (not_k h (by decide))) (by rw [hk]; decide), fun h => ⟨(p13 (not_k h (by decide))).1, (p13 (not_k h (by decide))).2.1, Nat.lt_of_lt_of_le (p13 (not_k h (by decide))).2.2 hb.size⟩, fun h => getD_set_true (q13 (not_k h (by decide))), fun h h2 => (z13 (not_k h (by decide)) (not_k' h2 (by decide))).next hb, fun h => (c13 (not_k h (by decide))).next hb, fun _ h => Nat.ne_of_gt (p13 (not_k h (by decide))).2.2⟩) ?_
          simp only [Act.put, List.setIfInBounds_toArray, List.set_cons_zero, List.set_cons_succ]
        · intro L x W hJ hlt hk hd K' hK
          obtain ⟨x47, x48, x49, x50, x51, x52, x53, x54, x55, x56, x57, x58, x9, x10, g9, g10⟩ := x
          obtain ⟨hS, f0, f1, f2, f3, f4, f5, f6, f7, f8, f9, f10, f11, p12, q12, z12, c12, p13, q13, z13, c13, n12_13⟩ := hJ
          refine ⟨?_⟩
          simp only [Act.put, List.setIfInBounds_toArray, List.set_cons_zero, List.set_cons_succ]
          go_simp
          have hb : Since W (W.alloc (.cells #[.bool false, .string ⟨#[]⟩] 23)) := (Since.refl _).alloc _
          refine kput (hK (x47, x48, x49, x50, x51, x52, x53, x54, x55, x56, x57, x58, x9, (.pointer (some ⟨W.heap.size, 0, none⟩)), g9, W.heap.size) _ ⟨hS.trans hb, fun h => f0 (not_k h (by decide)), fun h => f1 (not_k h (by decide)), fun h => f2 (not_k h (by decide)), fun h => f3 (not_k h (by decide)), fun h => f4 (not_k h (by decide)), fun h => f5 (not_k h (by decide)), fun h => f6 (not_k h (by decide)), fun h => f7 (not_k h (by decide)), fun h => f8 (not_k h (by decide)), fun h => f9 (not_k h (by decide)), fun h => f10 (not_k h (by decide)), fun h => f11 (not_k h (by decide)), fun h => ⟨(p12 (not_k h (by decide))).1, (p12 (not_k h (by decide))).2.1, Nat.lt_of_lt_of_le (p12 (not_k h (by decide))).2.2 hb.size⟩, fun h => getD_set_true (q12 (not_k h (by decide))), fun h h2 => (z12 (not_k h (by decide)) (not_k' h2 (by decide))).next hb, fun h => (c12 (not_k h (by decide))).next hb, fun _ => ⟨rfl, hS.size, by simp⟩, fun h => getD_set_true (q13 (not_k h (by decide))), fun _ _ => heap_alloc_new W _, fun h => absurd (q13 (not_k h (by decide))) (by rw [hk]; decide), fun h _ => Nat.ne_of_lt (p12 (not_k h (by decide))).2.2⟩) ?_
          simp only [Act.put, List.setIfInBounds_toArray, List.set_cons_zero, List.set_cons_succ]
        · intro L x W hJ hlt hk hd K' hK
          obtain ⟨x47, x48, x49, x50, x51, x52, x53, x54, x55, x56, x57, x58, x9, x10, g9, g10⟩ := x
          obtain ⟨hS, f0, f1, f2, f3, f4, f5, f6, f7, f8, f9, f10, f11, p12, q12, z12, c12, p13, q13, z13, c13, n12_13⟩ := hJ
          have d12 : L.getD 12 false = true := dep_of hd 12 (by rfl)
          obtain ⟨rfl, pl12, pg12⟩ := p12 d12
          have d5 : L.getD 5 false = true := dep_of hd 5 (by rfl)
          obtain rfl := (f5 d5).symm
          refine ⟨?_⟩
          simp only [Act.put, List.setIfInBounds_toArray, List.set_cons_zero, List.set_cons_succ]
          refine wp_store_row 23 (.tmp 9) (.tmp 52) rfl g9 #[.bool xv, .string ⟨xt.toArray⟩] rfl rfl 23 #[.bool false, .string ⟨#[]⟩] (z12 d12 hk) tinfo2 rfl (by simp [Value.oneCell']) ?_
          refine kput (hK (x47, x48, x49, x50, x51, (.agg #[.bool xv, .string ⟨xt.toArray⟩]), x53, x54, x55, x56, x57, x58, (.pointer (some ⟨g9, 0, none⟩)), x10, g9, g10) _ ⟨since_setRow hS pl12 _, fun h => f0 (not_k h (by decide)), fun h => f1 (not_k h (by decide)), fun h => f2 (not_k h (by decide)), fun h => f3 (not_k h (by decide)), fun h => f4 (not_k h (by decide)), fun h => f5 (not_k h (by decide)), fun h => f6 (not_k h (by decide)), fun h => f7 (not_k h (by decide)), fun h => f8 (not_k h (by decide)), fun h => f9 (not_k h (by decide)), fun h => f10 (not_k h (by decide)), fun h => f11 (not_k h (by decide)), fun h => ⟨(p12 (not_k h (by decide))).1, (p12 (not_k h (by decide))).2.1, Nat.lt_of_lt_of_eq (p12 (not_k h (by decide))).2.2 (by simp)⟩, fun _ => getD_set_true d12, fun _ h2 => absurd ((set_now hlt).symm.trans h2) (by decide), fun _ => Cel.row (z12 d12 hk) _, fun h => ⟨(p13 (not_k h (by decide))).1, (p13 (not_k h (by decide))).2.1, Nat.lt_of_lt_of_eq (p13 (not_k h (by decide))).2.2 (by simp)⟩, fun h => getD_set_true (q13 (not_k h (by decide))), fun h h2 => (z13 (not_k h (by decide)) (not_k' h2 (by decide))).farRow (fun e => n12_13 d12 (not_k h (by decide)) e.symm) _, fun h => (c13 (not_k h (by decide))).farRow (fun e => n12_13 d12 (q13 (not_k h (by decide))) e.symm) _, fun h h2 => n12_13 (not_k h (by decide)) (not_k h2 (by decide))⟩) ?_
          simp only [Act.put, List.setIfInBounds_toArray, List.set_cons_zero, List.set_cons_succ]
        · intro L x W hJ hlt hk hd K' hK
          obtain ⟨x47, x48, x49, x50, x51, x52, x53, x54, x55, x56, x57, x58, x9, x10, g9, g10⟩ := x
          obtain ⟨hS, f0, f1, f2, f3, f4, f5, f6, f7, f8, f9, f10, f11, p12, q12, z12, c12, p13, q13, z13, c13, n12_13⟩ := hJ
          have d13 : L.getD 13 false = true := dep_of hd 13 (by rfl)
          obtain ⟨rfl, pl13, pg13⟩ := p13 d13
          have d11 : L.getD 11 false = true := dep_of hd 11 (by rfl)
          obtain rfl := (f11 d11).symm
          refine ⟨?_⟩
          simp only [Act.put, List.setIfInBounds_toArray, List.set_cons_zero, List.set_cons_succ]
          refine wp_store_row 23 (.tmp 10) (.tmp 58) rfl g10 #[.bool yv, .string ⟨yt.toArray⟩] rfl rfl 23 #[.bool false, .string ⟨#[]⟩] (z13 d13 hk) tinfo2 rfl (by simp [Value.oneCell']) ?_
          refine kput (hK (x47, x48, x49, x50, x51, x52, x53, x54, x55, x56, x57, (.agg #[.bool yv, .string ⟨yt.toArray⟩]), x9, (.pointer (some ⟨g10, 0, none⟩)), g9, g10) _ ⟨since_setRow hS pl13 _, fun h => f0 (not_k h (by decide)), fun h => f1 (not_k h (by decide)), fun h => f2 (not_k h (by decide)), fun h => f3 (not_k h (by decide)), fun h => f4 (not_k h (by decide)), fun h => f5 (not_k h (by decide)), fun h => f6 (not_k h (by decide)), fun h => f7 (not_k h (by decide)), fun h => f8 (not_k h (by decide)), fun h => f9 (not_k h (by decide)), fun h => f10 (not_k h (by decide)), fun h => f11 (not_k h (by decide)), fun h => ⟨(p12 (not_k h (by decide))).1, (p12 (not_k h (by decide))).2.1, Nat.lt_of_lt_of_eq (p12 (not_k h (by decide))).2.2 (by simp)⟩, fun h => getD_set_true (q12 (not_k h (by decide))), fun h h2 => (z12 (not_k h (by decide)) (not_k' h2 (by decide))).farRow (fun e => n12_13 (not_k h (by decide)) d13 e) _, fun h => (c12 (not_k h (by decide))).farRow (fun e => n12_13 (q12 (not_k h (by decide))) d13 e) _, fun h => ⟨(p13 (not_k h (by decide))).1, (p13 (not_k h (by decide))).2.1, Nat.lt_of_lt_of_eq (p13 (not_k h (by decide))).2.2 (by simp)⟩, fun _ => getD_set_true d13, fun _ h2 => absurd ((set_now hlt).symm.trans h2) (by decide), fun _ => Cel.row (z13 d13 hk) _, fun h h2 => n12_13 (not_k h (by decide)) (not_k h2 (by decide))⟩) ?_
          simp only [Act.put, List.setIfInBounds_toArray, List.set_cons_zero, List.set_cons_succ]
      case stop =>
        intro L x W hJ hall
        obtain ⟨x47, x48, x49, x50, x51, x52, x53, x54, x55, x56, x57, x58, x9, x10, g9, g10⟩ := x
        obtain ⟨hS, f0, f1, f2, f3, f4, f5, f6, f7, f8, f9, f10, f11, p12, q12, z12, c12, p13, q13, z13, c13, n12_13⟩ := hJ
        obtain rfl := (f0 (hall 0 (Nat.le_of_ble_eq_true rfl))).symm
        obtain rfl := (f1 (hall 1 (Nat.le_of_ble_eq_true rfl))).symm
        obtain rfl := (f2 (hall 2 (Nat.le_of_ble_eq_true rfl))).symm
        obtain rfl := (f3 (hall 3 (Nat.le_of_ble_eq_true rfl))).symm
        obtain rfl := (f4 (hall 4 (Nat.le_of_ble_eq_true rfl))).symm
        obtain rfl := (f5 (hall 5 (Nat.le_of_ble_eq_true rfl))).symm
        obtain rfl := (f6 (hall 6 (Nat.le_of_ble_eq_true rfl))).symm
        obtain rfl := (f7 (hall 7 (Nat.le_of_ble_eq_true rfl))).symm
        obtain rfl := (f8 (hall 8 (Nat.le_of_ble_eq_true rfl))).symm
        obtain rfl := (f9 (hall 9 (Nat.le_of_ble_eq_true rfl))).symm
        obtain rfl := (f10 (hall 10 (Nat.le_of_ble_eq_true rfl))).symm
        obtain rfl := (f11 (hall 11 (Nat.le_of_ble_eq_true rfl))).symm
        obtain ⟨rfl, pl12, pg12⟩ := p12 (hall 12 (Nat.le_of_ble_eq_true rfl))
        have cc12 := c12 (hall 14 (Nat.le_of_ble_eq_true rfl))
        obtain ⟨rfl, pl13, pg13⟩ := p13 (hall 13 (Nat.le_of_ble_eq_true rfl))
        have cc13 := c13 (hall 15 (Nat.le_of_ble_eq_true rfl))
        have nn12_13 := n12_13 (hall 12 (Nat.le_of_ble_eq_true rfl)) (hall 13 (Nat.le_of_ble_eq_true rfl))
        clear f0 f1 f2 f3 f4 f5 f6 f7 f8 f9 f10 f11 p12 q12 z12 c12 p13 q13 z13 c13 n12_13 hall
        simp only [Act.put, List.setIfInBounds_toArray, List.set_cons_zero, List.set_cons_succ]
        have hX := Lib.hid cc12
        have hY := Lib.hid cc13
        have hS9 := hS
        have hSw := hSo.trans hS9
        replace hC := Lib.hid (hC.out.next hS9)
        replace hBa := Lib.hid (hBa.out.next hS9)
        replace hBb := Lib.hid (hBb.out.next hS9)
        replace hV := Lib.hid (hV.out.next hS9)
        obtain ⟨x0, x1⟩ := hX.out.two
        obtain ⟨y0, y1⟩ := hY.out.two
        have c0 := hC.out.one
        clear d0 d1 e0 e1 HT1 HT2
        by_cases hne : ((xv, xt) : Tm) = (yv, yt)
        · obtain ⟨rfl, rfl⟩ : xv = yv ∧ xt = yt := by injection hne with h1 h2; exact ⟨h1, h2⟩
          have HR2 : Hid (R = uniF (P.drop (k + 1)) l) := by
            show _ = _
            rw [HRES.out, if_pos rfl]
          clear HRES hM1 hM2 hne
          go_wp2_with fail
          go_roundw
          case rel => exact ⟨k + 1, v, l, by omega, by go_num, hSw, hBa.out, hBb.out, hC.out, hV.out, hI.out, by show _ ≤ _; have := hL.out; omega, HR2.out⟩
          case measure => simp [intOf]; omega
        · have hq := eqT_ne hne
          have HRN := HRES.out
          rw [if_neg hne] at HRN
          clear HRES
          cases xv <;> cases yv
          · have HR2 : Hid (R = none) := by
              show _ = _
              rw [HRN]; rfl
            clear HRN hM1 hM2 hne
            go_wp2_with fail
            go_ret2
            exact ⟨_, _, rfl, hSw, by rw [HR2.out]; exact ⟨rfl, rfl⟩⟩
          · have HR2 : Hid (R = uniF (P.drop (k + 1)) (bindP l yt (false, xt))) := by
              show _ = _
              rw [HRN]; rfl
            clear HRN
            have HB := Lib.hid (uclos_any v l yt false xt (w.heap.size + 2) W hV.out hC.out hI.out (by have := hL.out; omega) (hM2.out hne rfl))
            have hIB := hI.out.bind (hM2.out hne rfl)
            clear hM1 hM2
            go_wp2_with fail
            refine HB.out.mono ?_
            rintro e w10 ⟨v', rfl, hv', hC', hg⟩
            go_wp2_with fail
            go_roundw
            case rel => exact ⟨k + 1, v', bindP l yt (false, xt), by omega, by go_num, since_row hSw hg (Nat.le_add_right _ 2), hBa.out.farg hg (by intro e; injection e with e; omega), hBb.out.farg hg (by intro e; injection e with e; omega), hC', hv', hIB, by show _ ≤ _; rw [bind_len]; have := hL.out; omega, HR2.out⟩
            case measure => simp [intOf]; omega
          · have HR2 : Hid (R = uniF (P.drop (k + 1)) (bindP l xt (false, yt))) := by
              show _ = _
              rw [HRN]; rfl
            clear HRN
            have HB := Lib.hid (uclos_any v l xt false yt (w.heap.size + 2) W hV.out hC.out hI.out (by have := hL.out; omega) (hM1.out hne rfl))
            have hIB := hI.out.bind (hM1.out hne rfl)
            clear hM1 hM2
            go_wp2_with fail
            refine HB.out.mono ?_
            rintro e w10 ⟨v', rfl, hv', hC', hg⟩
            go_wp2_with fail
            go_roundw
            case rel => exact ⟨k + 1, v', bindP l xt (false, yt), by omega, by go_num, since_row hSw hg (Nat.le_add_right _ 2), hBa.out.farg hg (by intro e; injection e with e; omega), hBb.out.farg hg (by intro e; injection e with e; omega), hC', hv', hIB, by show _ ≤ _; rw [bind_len]; have := hL.out; omega, HR2.out⟩
            case measure => simp [intOf]; omega
          · by_cases hlt3 : yt < xt
            · have HR2 : Hid (R = uniF (P.drop (k + 1)) (bindP l xt (true, yt))) := by
                show _ = _
                rw [HRN]; simp [hlt3]
              have hb1 : Op.bytesLess xt yt = false := (less_lt _ _).trans (decide_eq_false fun h => List.lt_asymm h hlt3)
              have hb2 : (xt == yt) = false := by rw [beq_eq_false_iff_ne]; rintro rfl; exact List.lt_irrefl _ hlt3
              clear HRN
              have HB := Lib.hid (uclos_any v l xt true yt (w.heap.size + 2) W hV.out hC.out hI.out (by have := hL.out; omega) (hM1.out hne rfl))
              have hIB := hI.out.bind (hM1.out hne rfl)
              clear hM1 hM2
              go_wp2_with fail
              refine HB.out.mono ?_
              rintro e w10 ⟨v', rfl, hv', hC', hg⟩
              go_wp2_with fail
              go_roundw
              case rel => exact ⟨k + 1, v', bindP l xt (true, yt), by omega, by go_num, since_row hSw hg (Nat.le_add_right _ 2), hBa.out.farg hg (by intro e; injection e with e; omega), hBb.out.farg hg (by intro e; injection e with e; omega), hC', hv', hIB, by show _ ≤ _; rw [bind_len]; have := hL.out; omega, HR2.out⟩
              case measure => simp [intOf]; omega
            · have hnn : xt ≠ yt := by rintro rfl; exact hne rfl
              have HR2 : Hid (R = uniF (P.drop (k + 1)) (bindP l yt (true, xt))) := by
                show _ = _
                rw [HRN]; simp [hlt3]
              have hb1 : Op.bytesLess xt yt = true := (less_lt _ _).trans (decide_eq_true (lt_tri hlt3 (fun e => hnn e.symm)))
              clear HRN
              have HB := Lib.hid (uclos_any v l yt true xt (w.heap.size + 2) W hV.out hC.out hI.out (by have := hL.out; omega) (hM2.out hne rfl))
              have hIB := hI.out.bind (hM2.out hne rfl)
              clear hM1 hM2
              go_wp2_with fail
              refine HB.out.mono ?_
              rintro e w10 ⟨v', rfl, hv', hC', hg⟩
              go_wp2_with fail
              go_roundw
              case rel => exact ⟨k + 1, v', bindP l yt (true, xt), by omega, by go_num, since_row hSw hg (Nat.le_add_right _ 2), hBa.out.farg hg (by intro e; injection e with e; omega), hBb.out.farg hg (by intro e; injection e with e; omega), hC', hv', hIB, by show _ ≤ _; rw [bind_len]; have := hL.out; omega, HR2.out⟩
              case measure => simp [intOf]; omega
    · have hlt2 : ¬ (k : Int) < (n : Int) := by omega
      have HR2 : Hid (R = some l) := by
        show _ = _
        rw [hres.out, List.drop_eq_nil_of_le (by omega)]; rfl
      clear hres
      go_wp2_with fail
      go_ret2
      exact ⟨_, _, rfl, hS, by rw [HR2.out]; exact ⟨rfl, hV.out⟩⟩
end Go.Proofs.YtohcehjpdmhjlaaDoor
