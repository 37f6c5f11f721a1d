/- Meet; being under any atom; what two atoms meet in. -/
import Derived.Test.YtohcehjpdmhjlaaDoorUniUn
import Derived.Test.YtohcehjpdmhjlaaDoorUniRn
namespace Go.Proofs.YtohcehjpdmhjlaaDoor
open Go.RowKit

/-- An atom of 0 to 4 terms that have names. -/
def NamA (a : Atm) (n : Nat) : Prop := n ≤ 4 ∧ a.2.2.1 = (n : Int) ∧ ∀ t ∈ (argsL a).take n, t.2 ≠ []
theorem NamA.count {a : Atm} {n : Nat} (h : NamA a n) : countA a = n := by
  have h1 := h.1
  have h2 := h.2.1
  unfold countA
  omega
theorem NamA.pairs {a b : Atm} {n : Nat} (ha : NamA a n) (hb : NamA b n) : NamedP (((argsL a).zip (argsL b)).take n) := by
  intro q hq
  rw [List.zip, List.take_zipWith] at hq
  have h := List.of_mem_zip (show (q.1, q.2) ∈ ((argsL a).take n).zip ((argsL b).take n) from hq)
  exact ⟨ha.2.2 _ h.1, hb.2.2 _ h.2⟩
theorem unify_nam (a_s a_p : List UInt8) (a_n : Int) (a_v0 a_v1 a_v2 a_v3 : Bool) (a_l0 a_l1 a_l2 a_l3 : List UInt8) (b_s b_p : List UInt8) (b_n : Int) (b_v0 b_v1 b_v2 b_v3 : Bool) (b_l0 b_l1 b_l2 b_l3 : List UInt8) {n k : Nat} (ha : NamA ((a_s, a_p, a_n, (a_v0, a_l0), (a_v1, a_l1), (a_v2, a_l2), (a_v3, a_l3)) : Atm) n) (hb : NamA ((b_s, b_p, b_n, (b_v0, b_l0), (b_v1, b_l1), (b_v2, b_l2), (b_v3, b_l3)) : Atm) k) {R : Option (List Bnd)} (hR : uniA ((a_s, a_p, a_n, (a_v0, a_l0), (a_v1, a_l1), (a_v2, a_l2), (a_v3, a_l3)) : Atm) ((b_s, b_p, b_n, (b_v0, b_l0), (b_v1, b_l1), (b_v2, b_l2), (b_v3, b_l3)) : Atm) = R) (w : World) :
    Calls Tryd.prog 16 #[.agg #[.string ⟨a_s.toArray⟩, .string ⟨a_p.toArray⟩, .int .i64 a_n, .bool a_v0, .string ⟨a_l0.toArray⟩, .bool a_v1, .string ⟨a_l1.toArray⟩, .bool a_v2, .string ⟨a_l2.toArray⟩, .bool a_v3, .string ⟨a_l3.toArray⟩], .agg #[.string ⟨b_s.toArray⟩, .string ⟨b_p.toArray⟩, .int .i64 b_n, .bool b_v0, .string ⟨b_l0.toArray⟩, .bool b_v1, .string ⟨b_l1.toArray⟩, .bool b_v2, .string ⟨b_l2.toArray⟩, .bool b_v3, .string ⟨b_l3.toArray⟩]] w (UniPost R w) := by
  have ca := ha.count
  unfold uniA at hR
  split at hR
  · rename_i he
    obtain ⟨h1, h2, h3⟩ := he
    have e1 := ha.2.1
    have e2 := hb.2.1
    simp only at e1 e2 h1 h2 h3
    obtain rfl : k = n := by omega
    have hp := ha.pairs hb
    rw [ca] at hR
    subst h1 h2
    obtain rfl : a_n = (k : Int) := e1
    obtain rfl : b_n = (k : Int) := e2
    rw [← hR]
    exact unify_main a_s a_p k a_v0 a_v1 a_v2 a_v3 a_l0 a_l1 a_l2 a_l3 b_v0 b_v1 b_v2 b_v3 b_l0 b_l1 b_l2 b_l3 ha.1 w hp
  · rename_i he
    subst hR
    refine (unify_ne a_s a_p a_n a_v0 a_v1 a_v2 a_v3 a_l0 a_l1 a_l2 a_l3 b_s b_p b_n b_v0 b_v1 b_v2 b_v3 b_l0 b_l1 b_l2 b_l3 he w).mono ?_
    rintro e w' ⟨rfl, hs⟩
    exact ⟨_, _, rfl, hs, rfl, rfl⟩
set_option maxHeartbeats 4000000 in
set_option maxRecDepth 100000 in
theorem meet_some (a_s a_p : List UInt8) (a_n : Int) (a_v0 a_v1 a_v2 a_v3 : Bool) (a_l0 a_l1 a_l2 a_l3 : List UInt8) (b_s b_p : List UInt8) (b_n : Int) (b_v0 b_v1 b_v2 b_v3 : Bool) (b_l0 b_l1 b_l2 b_l3 : List UInt8) {n k : Nat} (ha : NamA ((a_s, a_p, a_n, (a_v0, a_l0), (a_v1, a_l1), (a_v2, a_l2), (a_v3, a_l3)) : Atm) n) (hb : NamA ((b_s, b_p, b_n, (b_v0, b_l0), (b_v1, b_l1), (b_v2, b_l2), (b_v3, b_l3)) : Atm) k) {m : List Bnd} (hm : uniA ((a_s, a_p, a_n, (a_v0, a_l0), (a_v1, a_l1), (a_v2, a_l2), (a_v3, a_l3)) : Atm) ((b_s, b_p, b_n, (b_v0, b_l0), (b_v1, b_l1), (b_v2, b_l2), (b_v3, b_l3)) : Atm) = some m) (hi : InvB m) (hl : m.length ≤ 4) (z_s z_p : List UInt8) (z_n : Int) (z_v0 z_v1 z_v2 z_v3 : Bool) (z_l0 z_l1 z_l2 z_l3 : List UInt8) (hz : applyA m ((a_s, a_p, a_n, (a_v0, a_l0), (a_v1, a_l1), (a_v2, a_l2), (a_v3, a_l3)) : Atm) = ((z_s, z_p, z_n, (z_v0, z_l0), (z_v1, z_l1), (z_v2, z_l2), (z_v3, z_l3)) : Atm)) (w : World) :
    Calls Tryd.prog 9 #[.agg #[.string ⟨a_s.toArray⟩, .string ⟨a_p.toArray⟩, .int .i64 a_n, .bool a_v0, .string ⟨a_l0.toArray⟩, .bool a_v1, .string ⟨a_l1.toArray⟩, .bool a_v2, .string ⟨a_l2.toArray⟩, .bool a_v3, .string ⟨a_l3.toArray⟩], .agg #[.string ⟨b_s.toArray⟩, .string ⟨b_p.toArray⟩, .int .i64 b_n, .bool b_v0, .string ⟨b_l0.toArray⟩, .bool b_v1, .string ⟨b_l1.toArray⟩, .bool b_v2, .string ⟨b_l2.toArray⟩, .bool b_v3, .string ⟨b_l3.toArray⟩]] w fun e w' => e = .returned (.tuple #[.agg #[.string ⟨z_s.toArray⟩, .string ⟨z_p.toArray⟩, .int .i64 z_n, .bool z_v0, .string ⟨z_l0.toArray⟩, .bool z_v1, .string ⟨z_l1.toArray⟩, .bool z_v2, .string ⟨z_l2.toArray⟩, .bool z_v3, .string ⟨z_l3.toArray⟩], .bool true]) ∧ Since w w' := by
  have HU := Lib.hid (fun W => unify_nam a_s a_p a_n a_v0 a_v1 a_v2 a_v3 a_l0 a_l1 a_l2 a_l3 b_s b_p b_n b_v0 b_v1 b_v2 b_v3 b_l0 b_l1 b_l2 b_l3 ha hb hm W)
  have HP : Hid (∀ v W, RowOf 3 bndC W v m → Calls Tryd.prog 25 #[v, .agg #[.string ⟨a_s.toArray⟩, .string ⟨a_p.toArray⟩, .int .i64 a_n, .bool a_v0, .string ⟨a_l0.toArray⟩, .bool a_v1, .string ⟨a_l1.toArray⟩, .bool a_v2, .string ⟨a_l2.toArray⟩, .bool a_v3, .string ⟨a_l3.toArray⟩]] W fun e w' => e = .returned (.agg #[.string ⟨z_s.toArray⟩, .string ⟨z_p.toArray⟩, .int .i64 z_n, .bool z_v0, .string ⟨z_l0.toArray⟩, .bool z_v1, .string ⟨z_l1.toArray⟩, .bool z_v2, .string ⟨z_l2.toArray⟩, .bool z_v3, .string ⟨z_l3.toArray⟩]) ∧ Since W w') := by
    intro v W h
    have := apply_any v m a_s a_p a_n a_v0 a_v1 a_v2 a_v3 a_l0 a_l1 a_l2 a_l3 n ha.2.1 ha.1 W h hi.1 (by omega)
    rw [hz] at this; exact this
  have hone : Hid (((#[.string ⟨z_s.toArray⟩, .string ⟨z_p.toArray⟩, .int .i64 z_n, .bool z_v0, .string ⟨z_l0.toArray⟩, .bool z_v1, .string ⟨z_l1.toArray⟩, .bool z_v2, .string ⟨z_l2.toArray⟩, .bool z_v3, .string ⟨z_l3.toArray⟩] : Array Value).all (·.oneCell')) = true) := by show _ = _; simp [Value.oneCell']
  clear ha hb hm hi hl hz
  have hS : Since w (((w.alloc (.cells #[.string ⟨a_s.toArray⟩, .string ⟨a_p.toArray⟩, .int .i64 a_n, .bool a_v0, .string ⟨a_l0.toArray⟩, .bool a_v1, .string ⟨a_l1.toArray⟩, .bool a_v2, .string ⟨a_l2.toArray⟩, .bool a_v3, .string ⟨a_l3.toArray⟩] 26)).alloc (.cells #[.string ⟨b_s.toArray⟩, .string ⟨b_p.toArray⟩, .int .i64 b_n, .bool b_v0, .string ⟨b_l0.toArray⟩, .bool b_v1, .string ⟨b_l1.toArray⟩, .bool b_v2, .string ⟨b_l2.toArray⟩, .bool b_v3, .string ⟨b_l3.toArray⟩] 26)).alloc (.cells #[.string ⟨#[]⟩, .string ⟨#[]⟩, .int .i64 0, .bool false, .string ⟨#[]⟩, .bool false, .string ⟨#[]⟩, .bool false, .string ⟨#[]⟩, .bool false, .string ⟨#[]⟩] 26)) := (((Since.refl _).alloc _).alloc _).alloc _
  have a_B : Box (((w.alloc (.cells #[.string ⟨a_s.toArray⟩, .string ⟨a_p.toArray⟩, .int .i64 a_n, .bool a_v0, .string ⟨a_l0.toArray⟩, .bool a_v1, .string ⟨a_l1.toArray⟩, .bool a_v2, .string ⟨a_l2.toArray⟩, .bool a_v3, .string ⟨a_l3.toArray⟩] 26)).alloc (.cells #[.string ⟨b_s.toArray⟩, .string ⟨b_p.toArray⟩, .int .i64 b_n, .bool b_v0, .string ⟨b_l0.toArray⟩, .bool b_v1, .string ⟨b_l1.toArray⟩, .bool b_v2, .string ⟨b_l2.toArray⟩, .bool b_v3, .string ⟨b_l3.toArray⟩] 26)).alloc (.cells #[.string ⟨#[]⟩, .string ⟨#[]⟩, .int .i64 0, .bool false, .string ⟨#[]⟩, .bool false, .string ⟨#[]⟩, .bool false, .string ⟨#[]⟩, .bool false, .string ⟨#[]⟩] 26)) w.heap.size ((a_s, a_p, a_n, (a_v0, a_l0), (a_v1, a_l1), (a_v2, a_l2), (a_v3, a_l3)) : Atm) := (box_new w ((a_s, a_p, a_n, (a_v0, a_l0), (a_v1, a_l1), (a_v2, a_l2), (a_v3, a_l3)) : Atm) _).next (((Since.refl _).alloc _).alloc _)
  have b_B : Box (((w.alloc (.cells #[.string ⟨a_s.toArray⟩, .string ⟨a_p.toArray⟩, .int .i64 a_n, .bool a_v0, .string ⟨a_l0.toArray⟩, .bool a_v1, .string ⟨a_l1.toArray⟩, .bool a_v2, .string ⟨a_l2.toArray⟩, .bool a_v3, .string ⟨a_l3.toArray⟩] 26)).alloc (.cells #[.string ⟨b_s.toArray⟩, .string ⟨b_p.toArray⟩, .int .i64 b_n, .bool b_v0, .string ⟨b_l0.toArray⟩, .bool b_v1, .string ⟨b_l1.toArray⟩, .bool b_v2, .string ⟨b_l2.toArray⟩, .bool b_v3, .string ⟨b_l3.toArray⟩] 26)).alloc (.cells #[.string ⟨#[]⟩, .string ⟨#[]⟩, .int .i64 0, .bool false, .string ⟨#[]⟩, .bool false, .string ⟨#[]⟩, .bool false, .string ⟨#[]⟩, .bool false, .string ⟨#[]⟩] 26)) (w.heap.size + 1) ((b_s, b_p, b_n, (b_v0, b_l0), (b_v1, b_l1), (b_v2, b_l2), (b_v3, b_l3)) : Atm) := by
    have := box_new (w.alloc (.cells #[.string ⟨a_s.toArray⟩, .string ⟨a_p.toArray⟩, .int .i64 a_n, .bool a_v0, .string ⟨a_l0.toArray⟩, .bool a_v1, .string ⟨a_l1.toArray⟩, .bool a_v2, .string ⟨a_l2.toArray⟩, .bool a_v3, .string ⟨a_l3.toArray⟩] 26)) ((b_s, b_p, b_n, (b_v0, b_l0), (b_v1, b_l1), (b_v2, b_l2), (b_v3, b_l3)) : Atm) 26
    rw [World.size_alloc] at this
    exact this.next ((Since.refl _).alloc _)
  have KZ : Cel (((w.alloc (.cells #[.string ⟨a_s.toArray⟩, .string ⟨a_p.toArray⟩, .int .i64 a_n, .bool a_v0, .string ⟨a_l0.toArray⟩, .bool a_v1, .string ⟨a_l1.toArray⟩, .bool a_v2, .string ⟨a_l2.toArray⟩, .bool a_v3, .string ⟨a_l3.toArray⟩] 26)).alloc (.cells #[.string ⟨b_s.toArray⟩, .string ⟨b_p.toArray⟩, .int .i64 b_n, .bool b_v0, .string ⟨b_l0.toArray⟩, .bool b_v1, .string ⟨b_l1.toArray⟩, .bool b_v2, .string ⟨b_l2.toArray⟩, .bool b_v3, .string ⟨b_l3.toArray⟩] 26)).alloc (.cells #[.string ⟨#[]⟩, .string ⟨#[]⟩, .int .i64 0, .bool false, .string ⟨#[]⟩, .bool false, .string ⟨#[]⟩, .bool false, .string ⟨#[]⟩, .bool false, .string ⟨#[]⟩] 26)) (w.heap.size + 1 + 1) #[.string ⟨#[]⟩, .string ⟨#[]⟩, .int .i64 0, .bool false, .string ⟨#[]⟩, .bool false, .string ⟨#[]⟩, .bool false, .string ⟨#[]⟩, .bool false, .string ⟨#[]⟩] 26 := by
    have h := heap_alloc_new ((w.alloc (.cells #[.string ⟨a_s.toArray⟩, .string ⟨a_p.toArray⟩, .int .i64 a_n, .bool a_v0, .string ⟨a_l0.toArray⟩, .bool a_v1, .string ⟨a_l1.toArray⟩, .bool a_v2, .string ⟨a_l2.toArray⟩, .bool a_v3, .string ⟨a_l3.toArray⟩] 26)).alloc (.cells #[.string ⟨b_s.toArray⟩, .string ⟨b_p.toArray⟩, .int .i64 b_n, .bool b_v0, .string ⟨b_l0.toArray⟩, .bool b_v1, .string ⟨b_l1.toArray⟩, .bool b_v2, .string ⟨b_l2.toArray⟩, .bool b_v3, .string ⟨b_l3.toArray⟩] 26)) (.cells #[.string ⟨#[]⟩, .string ⟨#[]⟩, .int .i64 0, .bool false, .string ⟨#[]⟩, .bool false, .string ⟨#[]⟩, .bool false, .string ⟨#[]⟩, .bool false, .string ⟨#[]⟩] 26)
    rw [World.size_alloc, World.size_alloc] at h
    exact h
  obtain ⟨a_c0, a_c1, a_c2, a_c3, a_c4, a_c5, a_c6, a_c7, a_c8, a_c9, a_c10⟩ := a_B.all
  obtain ⟨b_c0, b_c1, b_c2, b_c3, b_c4, b_c5, b_c6, b_c7, b_c8, b_c9, b_c10⟩ := b_B.all
  go_enter Tryd.func9, Tryd.ntmps9
  go_wp2_with fail
  refine (HU.out _).mono ?_
  rintro e w1 ⟨v, r, rfl, hb, rfl, hv⟩
  replace hS := hS.trans hb
  replace KZ := KZ.next hb
  have HV := Lib.hid hv.1
  replace a_B := a_B.next hb; replace a_c0 := hb.cell a_c0; replace a_c1 := hb.cell a_c1; replace a_c2 := hb.cell a_c2; replace a_c3 := hb.cell a_c3; replace a_c4 := hb.cell a_c4; replace a_c5 := hb.cell a_c5; replace a_c6 := hb.cell a_c6; replace a_c7 := hb.cell a_c7; replace a_c8 := hb.cell a_c8; replace a_c9 := hb.cell a_c9; replace a_c10 := hb.cell a_c10
  clear hb hv b_c0 b_c1 b_c2 b_c3 b_c4 b_c5 b_c6 b_c7 b_c8 b_c9 b_c10 b_B
  go_wp2_with fail
  refine (HP.out v _ HV.out).mono ?_
  rintro e w2 ⟨rfl, hb⟩
  replace hS := hS.trans hb
  replace KZ := KZ.next hb
  clear hb a_c0 a_c1 a_c2 a_c3 a_c4 a_c5 a_c6 a_c7 a_c8 a_c9 a_c10 a_B
  go_wp2_with (refine wpList_store_row rfl 26 (.tmp 4) (.tmp 19) rfl (w.heap.size + 1 + 1) #[.string ⟨z_s.toArray⟩, .string ⟨z_p.toArray⟩, .int .i64 z_n, .bool z_v0, .string ⟨z_l0.toArray⟩, .bool z_v1, .string ⟨z_l1.toArray⟩, .bool z_v2, .string ⟨z_l2.toArray⟩, .bool z_v3, .string ⟨z_l3.toArray⟩] rfl rfl 26 #[.string ⟨#[]⟩, .string ⟨#[]⟩, .int .i64 0, .bool false, .string ⟨#[]⟩, .bool false, .string ⟨#[]⟩, .bool false, .string ⟨#[]⟩, .bool false, .string ⟨#[]⟩] KZ ainfoA rfl hone.out ?_)
  have hbx : Box (w2.setRow (w.heap.size + 1 + 1) #[.string ⟨z_s.toArray⟩, .string ⟨z_p.toArray⟩, .int .i64 z_n, .bool z_v0, .string ⟨z_l0.toArray⟩, .bool z_v1, .string ⟨z_l1.toArray⟩, .bool z_v2, .string ⟨z_l2.toArray⟩, .bool z_v3, .string ⟨z_l3.toArray⟩]) (w.heap.size + 1 + 1) ((z_s, z_p, z_n, (z_v0, z_l0), (z_v1, z_l1), (z_v2, z_l2), (z_v3, z_l3)) : Atm) := Cel.box' (T := 26) (KZ.row (atmC ((z_s, z_p, z_n, (z_v0, z_l0), (z_v1, z_l1), (z_v2, z_l2), (z_v3, z_l3)) : Atm)))
  obtain ⟨e0, e1, e2, e3, e4, e5, e6, e7, e8, e9, e10⟩ := hbx.all
  refine bodyPost_ret (v := .tuple #[.agg #[.string ⟨z_s.toArray⟩, .string ⟨z_p.toArray⟩, .int .i64 z_n, .bool z_v0, .string ⟨z_l0.toArray⟩, .bool z_v1, .string ⟨z_l1.toArray⟩, .bool z_v2, .string ⟨z_l2.toArray⟩, .bool z_v3, .string ⟨z_l3.toArray⟩], .bool true]) (by simp [results, Tryd.results9, go_sem, e0, e1, e2, e3, e4, e5, e6, e7, e8, e9, e10]) rfl ?_
  exact ⟨rfl, grown_rowU w2 _ _ (by omega) hS⟩
set_option maxHeartbeats 4000000 in
set_option maxRecDepth 100000 in
theorem meet_none (a_s a_p : List UInt8) (a_n : Int) (a_v0 a_v1 a_v2 a_v3 : Bool) (a_l0 a_l1 a_l2 a_l3 : List UInt8) (b_s b_p : List UInt8) (b_n : Int) (b_v0 b_v1 b_v2 b_v3 : Bool) (b_l0 b_l1 b_l2 b_l3 : List UInt8) {n k : Nat} (ha : NamA ((a_s, a_p, a_n, (a_v0, a_l0), (a_v1, a_l1), (a_v2, a_l2), (a_v3, a_l3)) : Atm) n) (hb : NamA ((b_s, b_p, b_n, (b_v0, b_l0), (b_v1, b_l1), (b_v2, b_l2), (b_v3, b_l3)) : Atm) k) (hm : uniA ((a_s, a_p, a_n, (a_v0, a_l0), (a_v1, a_l1), (a_v2, a_l2), (a_v3, a_l3)) : Atm) ((b_s, b_p, b_n, (b_v0, b_l0), (b_v1, b_l1), (b_v2, b_l2), (b_v3, b_l3)) : Atm) = none) (w : World) :
    Calls Tryd.prog 9 #[.agg #[.string ⟨a_s.toArray⟩, .string ⟨a_p.toArray⟩, .int .i64 a_n, .bool a_v0, .string ⟨a_l0.toArray⟩, .bool a_v1, .string ⟨a_l1.toArray⟩, .bool a_v2, .string ⟨a_l2.toArray⟩, .bool a_v3, .string ⟨a_l3.toArray⟩], .agg #[.string ⟨b_s.toArray⟩, .string ⟨b_p.toArray⟩, .int .i64 b_n, .bool b_v0, .string ⟨b_l0.toArray⟩, .bool b_v1, .string ⟨b_l1.toArray⟩, .bool b_v2, .string ⟨b_l2.toArray⟩, .bool b_v3, .string ⟨b_l3.toArray⟩]] w fun e w' => e = .returned (.tuple #[.agg #[.string ⟨#[]⟩, .string ⟨#[]⟩, .int .i64 0, .bool false, .string ⟨#[]⟩, .bool false, .string ⟨#[]⟩, .bool false, .string ⟨#[]⟩, .bool false, .string ⟨#[]⟩], .bool false]) ∧ Since w w' := by
  have HU := Lib.hid (fun W => unify_nam a_s a_p a_n a_v0 a_v1 a_v2 a_v3 a_l0 a_l1 a_l2 a_l3 b_s b_p b_n b_v0 b_v1 b_v2 b_v3 b_l0 b_l1 b_l2 b_l3 ha hb hm W)
  have hone : Hid (((#[.string ⟨#[]⟩, .string ⟨#[]⟩, .int .i64 0, .bool false, .string ⟨#[]⟩, .bool false, .string ⟨#[]⟩, .bool false, .string ⟨#[]⟩, .bool false, .string ⟨#[]⟩] : Array Value).all (·.oneCell')) = true) := by show _ = _; simp [Value.oneCell']
  clear ha hb hm
  have hS : Since w (((w.alloc (.cells #[.string ⟨a_s.toArray⟩, .string ⟨a_p.toArray⟩, .int .i64 a_n, .bool a_v0, .string ⟨a_l0.toArray⟩, .bool a_v1, .string ⟨a_l1.toArray⟩, .bool a_v2, .string ⟨a_l2.toArray⟩, .bool a_v3, .string ⟨a_l3.toArray⟩] 26)).alloc (.cells #[.string ⟨b_s.toArray⟩, .string ⟨b_p.toArray⟩, .int .i64 b_n, .bool b_v0, .string ⟨b_l0.toArray⟩, .bool b_v1, .string ⟨b_l1.toArray⟩, .bool b_v2, .string ⟨b_l2.toArray⟩, .bool b_v3, .string ⟨b_l3.toArray⟩] 26)).alloc (.cells #[.string ⟨#[]⟩, .string ⟨#[]⟩, .int .i64 0, .bool false, .string ⟨#[]⟩, .bool false, .string ⟨#[]⟩, .bool false, .string ⟨#[]⟩, .bool false, .string ⟨#[]⟩] 26)) := (((Since.refl _).alloc _).alloc _).alloc _
  have a_B : Box (((w.alloc (.cells #[.string ⟨a_s.toArray⟩, .string ⟨a_p.toArray⟩, .int .i64 a_n, .bool a_v0, .string ⟨a_l0.toArray⟩, .bool a_v1, .string ⟨a_l1.toArray⟩, .bool a_v2, .string ⟨a_l2.toArray⟩, .bool a_v3, .string ⟨a_l3.toArray⟩] 26)).alloc (.cells #[.string ⟨b_s.toArray⟩, .string ⟨b_p.toArray⟩, .int .i64 b_n, .bool b_v0, .string ⟨b_l0.toArray⟩, .bool b_v1, .string ⟨b_l1.toArray⟩, .bool b_v2, .string ⟨b_l2.toArray⟩, .bool b_v3, .string ⟨b_l3.toArray⟩] 26)).alloc (.cells #[.string ⟨#[]⟩, .string ⟨#[]⟩, .int .i64 0, .bool false, .string ⟨#[]⟩, .bool false, .string ⟨#[]⟩, .bool false, .string ⟨#[]⟩, .bool false, .string ⟨#[]⟩] 26)) w.heap.size ((a_s, a_p, a_n, (a_v0, a_l0), (a_v1, a_l1), (a_v2, a_l2), (a_v3, a_l3)) : Atm) := (box_new w ((a_s, a_p, a_n, (a_v0, a_l0), (a_v1, a_l1), (a_v2, a_l2), (a_v3, a_l3)) : Atm) _).next (((Since.refl _).alloc _).alloc _)
  have b_B : Box (((w.alloc (.cells #[.string ⟨a_s.toArray⟩, .string ⟨a_p.toArray⟩, .int .i64 a_n, .bool a_v0, .string ⟨a_l0.toArray⟩, .bool a_v1, .string ⟨a_l1.toArray⟩, .bool a_v2, .string ⟨a_l2.toArray⟩, .bool a_v3, .string ⟨a_l3.toArray⟩] 26)).alloc (.cells #[.string ⟨b_s.toArray⟩, .string ⟨b_p.toArray⟩, .int .i64 b_n, .bool b_v0, .string ⟨b_l0.toArray⟩, .bool b_v1, .string ⟨b_l1.toArray⟩, .bool b_v2, .string ⟨b_l2.toArray⟩, .bool b_v3, .string ⟨b_l3.toArray⟩] 26)).alloc (.cells #[.string ⟨#[]⟩, .string ⟨#[]⟩, .int .i64 0, .bool false, .string ⟨#[]⟩, .bool false, .string ⟨#[]⟩, .bool false, .string ⟨#[]⟩, .bool false, .string ⟨#[]⟩] 26)) (w.heap.size + 1) ((b_s, b_p, b_n, (b_v0, b_l0), (b_v1, b_l1), (b_v2, b_l2), (b_v3, b_l3)) : Atm) := by
    have := box_new (w.alloc (.cells #[.string ⟨a_s.toArray⟩, .string ⟨a_p.toArray⟩, .int .i64 a_n, .bool a_v0, .string ⟨a_l0.toArray⟩, .bool a_v1, .string ⟨a_l1.toArray⟩, .bool a_v2, .string ⟨a_l2.toArray⟩, .bool a_v3, .string ⟨a_l3.toArray⟩] 26)) ((b_s, b_p, b_n, (b_v0, b_l0), (b_v1, b_l1), (b_v2, b_l2), (b_v3, b_l3)) : Atm) 26
    rw [World.size_alloc] at this
    exact this.next ((Since.refl _).alloc _)
  have KZ : Cel (((w.alloc (.cells #[.string ⟨a_s.toArray⟩, .string ⟨a_p.toArray⟩, .int .i64 a_n, .bool a_v0, .string ⟨a_l0.toArray⟩, .bool a_v1, .string ⟨a_l1.toArray⟩, .bool a_v2, .string ⟨a_l2.toArray⟩, .bool a_v3, .string ⟨a_l3.toArray⟩] 26)).alloc (.cells #[.string ⟨b_s.toArray⟩, .string ⟨b_p.toArray⟩, .int .i64 b_n, .bool b_v0, .string ⟨b_l0.toArray⟩, .bool b_v1, .string ⟨b_l1.toArray⟩, .bool b_v2, .string ⟨b_l2.toArray⟩, .bool b_v3, .string ⟨b_l3.toArray⟩] 26)).alloc (.cells #[.string ⟨#[]⟩, .string ⟨#[]⟩, .int .i64 0, .bool false, .string ⟨#[]⟩, .bool false, .string ⟨#[]⟩, .bool false, .string ⟨#[]⟩, .bool false, .string ⟨#[]⟩] 26)) (w.heap.size + 1 + 1) #[.string ⟨#[]⟩, .string ⟨#[]⟩, .int .i64 0, .bool false, .string ⟨#[]⟩, .bool false, .string ⟨#[]⟩, .bool false, .string ⟨#[]⟩, .bool false, .string ⟨#[]⟩] 26 := by
    have h := heap_alloc_new ((w.alloc (.cells #[.string ⟨a_s.toArray⟩, .string ⟨a_p.toArray⟩, .int .i64 a_n, .bool a_v0, .string ⟨a_l0.toArray⟩, .bool a_v1, .string ⟨a_l1.toArray⟩, .bool a_v2, .string ⟨a_l2.toArray⟩, .bool a_v3, .string ⟨a_l3.toArray⟩] 26)).alloc (.cells #[.string ⟨b_s.toArray⟩, .string ⟨b_p.toArray⟩, .int .i64 b_n, .bool b_v0, .string ⟨b_l0.toArray⟩, .bool b_v1, .string ⟨b_l1.toArray⟩, .bool b_v2, .string ⟨b_l2.toArray⟩, .bool b_v3, .string ⟨b_l3.toArray⟩] 26)) (.cells #[.string ⟨#[]⟩, .string ⟨#[]⟩, .int .i64 0, .bool false, .string ⟨#[]⟩, .bool false, .string ⟨#[]⟩, .bool false, .string ⟨#[]⟩, .bool false, .string ⟨#[]⟩] 26)
    rw [World.size_alloc, World.size_alloc] at h
    exact h
  obtain ⟨a_c0, a_c1, a_c2, a_c3, a_c4, a_c5, a_c6, a_c7, a_c8, a_c9, a_c10⟩ := a_B.all
  obtain ⟨b_c0, b_c1, b_c2, b_c3, b_c4, b_c5, b_c6, b_c7, b_c8, b_c9, b_c10⟩ := b_B.all
  go_enter Tryd.func9, Tryd.ntmps9
  go_wp2_with fail
  refine (HU.out _).mono ?_
  rintro e w1 ⟨v, r, rfl, hb, rfl, rfl⟩
  replace hS := hS.trans hb
  replace KZ := KZ.next hb
  clear hb b_c0 b_c1 b_c2 b_c3 b_c4 b_c5 b_c6 b_c7 b_c8 b_c9 b_c10 b_B a_c0 a_c1 a_c2 a_c3 a_c4 a_c5 a_c6 a_c7 a_c8 a_c9 a_c10 a_B
  go_wp2_with (refine wpList_store_row rfl 26 (.tmp 4) (.tmp 16) rfl (w.heap.size + 1 + 1) #[.string ⟨#[]⟩, .string ⟨#[]⟩, .int .i64 0, .bool false, .string ⟨#[]⟩, .bool false, .string ⟨#[]⟩, .bool false, .string ⟨#[]⟩, .bool false, .string ⟨#[]⟩] rfl rfl 26 #[.string ⟨#[]⟩, .string ⟨#[]⟩, .int .i64 0, .bool false, .string ⟨#[]⟩, .bool false, .string ⟨#[]⟩, .bool false, .string ⟨#[]⟩, .bool false, .string ⟨#[]⟩] KZ ainfoA rfl hone.out ?_)
  have hbx : Box (w1.setRow (w.heap.size + 1 + 1) #[.string ⟨#[]⟩, .string ⟨#[]⟩, .int .i64 0, .bool false, .string ⟨#[]⟩, .bool false, .string ⟨#[]⟩, .bool false, .string ⟨#[]⟩, .bool false, .string ⟨#[]⟩]) (w.heap.size + 1 + 1) (([], [], 0, (false, []), (false, []), (false, []), (false, [])) : Atm) := Cel.box' (T := 26) (KZ.row (atmC zeroAtmU))
  obtain ⟨e0, e1, e2, e3, e4, e5, e6, e7, e8, e9, e10⟩ := hbx.all
  refine bodyPost_ret (v := .tuple #[.agg #[.string ⟨#[]⟩, .string ⟨#[]⟩, .int .i64 0, .bool false, .string ⟨#[]⟩, .bool false, .string ⟨#[]⟩, .bool false, .string ⟨#[]⟩, .bool false, .string ⟨#[]⟩], .bool false]) (by simp [results, Tryd.results9, go_sem, e0, e1, e2, e3, e4, e5, e6, e7, e8, e9, e10]) rfl ?_
  exact ⟨rfl, grown_rowU w1 _ _ (by omega) hS⟩
end Go.Proofs.YtohcehjpdmhjlaaDoor
