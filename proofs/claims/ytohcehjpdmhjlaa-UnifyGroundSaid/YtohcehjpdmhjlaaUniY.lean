/- The reference's Match at two valid atoms of which the second is ground. -/
import Derived.Test.YtohcehjpdmhjlaaUniX
namespace Go.Proofs.Ytohcehjpdmhjlaa
open Go.RowKit

/-- What matching comes to, as Unify's result: the bindings and true, or none and false. -/
def MatchPost (R : Option (List Bnd)) (w : World) (e : Ending) (w' : World) : Prop :=
  match R with
  | some m => ∃ v, e = .returned (.tuple #[v, .bool true]) ∧ RowS w' v m ∧ Since w w'
  | none => e = .returned (.tuple #[.slice none 0 0, .bool false]) ∧ Since w w'
theorem ground_pairs {a b : Atm} (hg : groundA b = true) (hn : countA a = countA b) : ∀ q ∈ ((argsL a).zip (argsL b)).take (countA a), q.2.1 = false := by
  intro q hq
  rw [List.zip, List.take_zipWith] at hq
  have h2 := (List.of_mem_zip (show (q.1, q.2) ∈ ((argsL a).take (countA a)).zip ((argsL b).take (countA a)) from hq)).2
  rw [hn] at h2
  have := List.all_eq_true.1 (show ((argsL b).take (countA b)).all (fun t => !t.1) = true from hg) _ h2
  simpa using this
set_option maxHeartbeats 4000000 in
set_option maxRecDepth 100000 in
theorem extend_no (a_s a_p : List UInt8) (a_n : Int) (a_v0 a_v1 a_v2 a_v3 : Bool) (a_l0 a_l1 a_l2 a_l3 : List UInt8) (b_s b_p : List UInt8) (b_n : Int) (b_v0 b_v1 b_v2 b_v3 : Bool) (b_l0 b_l1 b_l2 b_l3 : List UInt8) (h : ¬ (a_s = b_s ∧ a_p = b_p ∧ a_n = b_n)) (w : World) :
    Calls Try.prog 26 #[.slice none 0 0, .agg #[.string ⟨a_s.toArray⟩, .string ⟨a_p.toArray⟩, .int .i64 a_n, .bool a_v0, .string ⟨a_l0.toArray⟩, .bool a_v1, .string ⟨a_l1.toArray⟩, .bool a_v2, .string ⟨a_l2.toArray⟩, .bool a_v3, .string ⟨a_l3.toArray⟩], .agg #[.string ⟨b_s.toArray⟩, .string ⟨b_p.toArray⟩, .int .i64 b_n, .bool b_v0, .string ⟨b_l0.toArray⟩, .bool b_v1, .string ⟨b_l1.toArray⟩, .bool b_v2, .string ⟨b_l2.toArray⟩, .bool b_v3, .string ⟨b_l3.toArray⟩]] w fun e w' => e = .returned (.tuple #[.slice none 0 0, .bool false]) ∧ Since w w' := by
  have HAL := Lib.hid (fun W => alike_no a_s a_p a_n a_v0 a_v1 a_v2 a_v3 a_l0 a_l1 a_l2 a_l3 b_s b_p b_n b_v0 b_v1 b_v2 b_v3 b_l0 b_l1 b_l2 b_l3 h W)
  clear h
  have hS : Since w ((w.alloc (.cells #[.string ⟨a_s.toArray⟩, .string ⟨a_p.toArray⟩, .int .i64 a_n, .bool a_v0, .string ⟨a_l0.toArray⟩, .bool a_v1, .string ⟨a_l1.toArray⟩, .bool a_v2, .string ⟨a_l2.toArray⟩, .bool a_v3, .string ⟨a_l3.toArray⟩] 26)).alloc (.cells #[.string ⟨b_s.toArray⟩, .string ⟨b_p.toArray⟩, .int .i64 b_n, .bool b_v0, .string ⟨b_l0.toArray⟩, .bool b_v1, .string ⟨b_l1.toArray⟩, .bool b_v2, .string ⟨b_l2.toArray⟩, .bool b_v3, .string ⟨b_l3.toArray⟩] 26)) := ((Since.refl _).alloc _).alloc _
  have a_B : Box ((w.alloc (.cells #[.string ⟨a_s.toArray⟩, .string ⟨a_p.toArray⟩, .int .i64 a_n, .bool a_v0, .string ⟨a_l0.toArray⟩, .bool a_v1, .string ⟨a_l1.toArray⟩, .bool a_v2, .string ⟨a_l2.toArray⟩, .bool a_v3, .string ⟨a_l3.toArray⟩] 26)).alloc (.cells #[.string ⟨b_s.toArray⟩, .string ⟨b_p.toArray⟩, .int .i64 b_n, .bool b_v0, .string ⟨b_l0.toArray⟩, .bool b_v1, .string ⟨b_l1.toArray⟩, .bool b_v2, .string ⟨b_l2.toArray⟩, .bool b_v3, .string ⟨b_l3.toArray⟩] 26)) w.heap.size ((a_s, a_p, a_n, (a_v0, a_l0), (a_v1, a_l1), (a_v2, a_l2), (a_v3, a_l3)) : Atm) := (box_new w ((a_s, a_p, a_n, (a_v0, a_l0), (a_v1, a_l1), (a_v2, a_l2), (a_v3, a_l3)) : Atm) _).next ((Since.refl _).alloc _)
  have b_B : Box ((w.alloc (.cells #[.string ⟨a_s.toArray⟩, .string ⟨a_p.toArray⟩, .int .i64 a_n, .bool a_v0, .string ⟨a_l0.toArray⟩, .bool a_v1, .string ⟨a_l1.toArray⟩, .bool a_v2, .string ⟨a_l2.toArray⟩, .bool a_v3, .string ⟨a_l3.toArray⟩] 26)).alloc (.cells #[.string ⟨b_s.toArray⟩, .string ⟨b_p.toArray⟩, .int .i64 b_n, .bool b_v0, .string ⟨b_l0.toArray⟩, .bool b_v1, .string ⟨b_l1.toArray⟩, .bool b_v2, .string ⟨b_l2.toArray⟩, .bool b_v3, .string ⟨b_l3.toArray⟩] 26)) (w.heap.size + 1) ((b_s, b_p, b_n, (b_v0, b_l0), (b_v1, b_l1), (b_v2, b_l2), (b_v3, b_l3)) : Atm) := by
    have := box_new (w.alloc (.cells #[.string ⟨a_s.toArray⟩, .string ⟨a_p.toArray⟩, .int .i64 a_n, .bool a_v0, .string ⟨a_l0.toArray⟩, .bool a_v1, .string ⟨a_l1.toArray⟩, .bool a_v2, .string ⟨a_l2.toArray⟩, .bool a_v3, .string ⟨a_l3.toArray⟩] 26)) ((b_s, b_p, b_n, (b_v0, b_l0), (b_v1, b_l1), (b_v2, b_l2), (b_v3, b_l3)) : Atm) 26
    rwa [World.size_alloc] at this
  obtain ⟨a_c0, a_c1, a_c2, a_c3, a_c4, a_c5, a_c6, a_c7, a_c8, a_c9, a_c10⟩ := a_B.all
  obtain ⟨b_c0, b_c1, b_c2, b_c3, b_c4, b_c5, b_c6, b_c7, b_c8, b_c9, b_c10⟩ := b_B.all
  go_enter Try.func26, Try.ntmps26
  go_wp2_with fail
  refine (rcheckb_any (.slice none 0 0) [] _ RowOf.nil InvB.nil (by simp)).mono ?_
  rintro e w1 ⟨rfl, hb⟩
  replace hS := hS.trans hb
  replace a_B := a_B.next hb; replace a_c0 := hb.cell a_c0; replace a_c1 := hb.cell a_c1; replace a_c2 := hb.cell a_c2; replace a_c3 := hb.cell a_c3; replace a_c4 := hb.cell a_c4; replace a_c5 := hb.cell a_c5; replace a_c6 := hb.cell a_c6; replace a_c7 := hb.cell a_c7; replace a_c8 := hb.cell a_c8; replace a_c9 := hb.cell a_c9; replace a_c10 := hb.cell a_c10; replace b_B := b_B.next hb; replace b_c0 := hb.cell b_c0; replace b_c1 := hb.cell b_c1; replace b_c2 := hb.cell b_c2; replace b_c3 := hb.cell b_c3; replace b_c4 := hb.cell b_c4; replace b_c5 := hb.cell b_c5; replace b_c6 := hb.cell b_c6; replace b_c7 := hb.cell b_c7; replace b_c8 := hb.cell b_c8; replace b_c9 := hb.cell b_c9; replace b_c10 := hb.cell b_c10
  go_wp2_with fail
  refine (HAL.out _).mono ?_
  rintro e w3 ⟨rfl, hb⟩
  replace hS := hS.trans hb
  clear a_c0 a_c1 a_c2 a_c3 a_c4 a_c5 a_c6 a_c7 a_c8 a_c9 a_c10 b_c0 b_c1 b_c2 b_c3 b_c4 b_c5 b_c6 b_c7 b_c8 b_c9 b_c10 a_B b_B
  go_wp2_with fail
  go_ret2
  exact ⟨rfl, hS⟩
theorem extend_any (a_s a_p : List UInt8) (a_n : Int) (a_v0 a_v1 a_v2 a_v3 : Bool) (a_l0 a_l1 a_l2 a_l3 : List UInt8) (b_s b_p : List UInt8) (b_n : Int) (b_v0 b_v1 b_v2 b_v3 : Bool) (b_l0 b_l1 b_l2 b_l3 : List UInt8) (ka : checkA ((a_s, a_p, a_n, (a_v0, a_l0), (a_v1, a_l1), (a_v2, a_l2), (a_v3, a_l3)) : Atm) = 0) (kb : checkA ((b_s, b_p, b_n, (b_v0, b_l0), (b_v1, b_l1), (b_v2, b_l2), (b_v3, b_l3)) : Atm) = 0) (hg : groundA ((b_s, b_p, b_n, (b_v0, b_l0), (b_v1, b_l1), (b_v2, b_l2), (b_v3, b_l3)) : Atm) = true) (w : World) :
    Calls Try.prog 26 #[.slice none 0 0, .agg #[.string ⟨a_s.toArray⟩, .string ⟨a_p.toArray⟩, .int .i64 a_n, .bool a_v0, .string ⟨a_l0.toArray⟩, .bool a_v1, .string ⟨a_l1.toArray⟩, .bool a_v2, .string ⟨a_l2.toArray⟩, .bool a_v3, .string ⟨a_l3.toArray⟩], .agg #[.string ⟨b_s.toArray⟩, .string ⟨b_p.toArray⟩, .int .i64 b_n, .bool b_v0, .string ⟨b_l0.toArray⟩, .bool b_v1, .string ⟨b_l1.toArray⟩, .bool b_v2, .string ⟨b_l2.toArray⟩, .bool b_v3, .string ⟨b_l3.toArray⟩]] w (MatchPost (uniA ((a_s, a_p, a_n, (a_v0, a_l0), (a_v1, a_l1), (a_v2, a_l2), (a_v3, a_l3)) : Atm) ((b_s, b_p, b_n, (b_v0, b_l0), (b_v1, b_l1), (b_v2, b_l2), (b_v3, b_l3)) : Atm)) w) := by
  obtain ⟨n, hn, e1, ca⟩ := valid_len ka
  obtain ⟨k, hk, e2, cb⟩ := valid_len kb
  by_cases he : a_s = b_s ∧ a_p = b_p ∧ a_n = b_n
  · have hnp := named_pairs ka kb (by rw [ca, cb]; have := he.2.2; simp only at e1 e2; omega)
    have hgp := ground_pairs (a := ((a_s, a_p, a_n, (a_v0, a_l0), (a_v1, a_l1), (a_v2, a_l2), (a_v3, a_l3)) : Atm)) hg (by rw [ca, cb]; have := he.2.2; simp only at e1 e2; omega)
    have hu : uniA ((a_s, a_p, a_n, (a_v0, a_l0), (a_v1, a_l1), (a_v2, a_l2), (a_v3, a_l3)) : Atm) ((b_s, b_p, b_n, (b_v0, b_l0), (b_v1, b_l1), (b_v2, b_l2), (b_v3, b_l3)) : Atm) = uniF (((argsL ((a_s, a_p, a_n, (a_v0, a_l0), (a_v1, a_l1), (a_v2, a_l2), (a_v3, a_l3)) : Atm)).zip (argsL ((b_s, b_p, b_n, (b_v0, b_l0), (b_v1, b_l1), (b_v2, b_l2), (b_v3, b_l3)) : Atm))).take n) [] := by
      unfold uniA
      rw [if_pos he, ca]
    rw [ca] at hnp hgp
    rw [hu, ← match_uni (fun b hb => by cases hb) hgp]
    obtain ⟨h1, h2, h3⟩ := he
    simp only at e1 e2
    subst h1 h2
    obtain rfl : a_n = (n : Int) := e1
    obtain rfl : b_n = (n : Int) := h3.symm
    refine (extend_main a_s a_p n a_v0 a_v1 a_v2 a_v3 a_l0 a_l1 a_l2 a_l3 b_v0 b_v1 b_v2 b_v3 b_l0 b_l1 b_l2 b_l3 hn w hnp hgp hg).mono ?_
    rintro e w' ⟨v, r, rfl, hs, hr⟩
    unfold MatchPost
    split
    · rename_i m hm
      rw [hm] at hr
      obtain ⟨rfl, hr⟩ := hr
      exact ⟨v, rfl, hr, hs⟩
    · rename_i hm
      rw [hm] at hr
      obtain ⟨rfl, rfl⟩ := hr
      exact ⟨rfl, hs⟩
  · have hu : uniA ((a_s, a_p, a_n, (a_v0, a_l0), (a_v1, a_l1), (a_v2, a_l2), (a_v3, a_l3)) : Atm) ((b_s, b_p, b_n, (b_v0, b_l0), (b_v1, b_l1), (b_v2, b_l2), (b_v3, b_l3)) : Atm) = none := by
      unfold uniA
      rw [if_neg he]
    rw [hu]
    exact extend_no a_s a_p a_n a_v0 a_v1 a_v2 a_v3 a_l0 a_l1 a_l2 a_l3 b_s b_p b_n b_v0 b_v1 b_v2 b_v3 b_l0 b_l1 b_l2 b_l3 he w
set_option maxHeartbeats 4000000 in
set_option maxRecDepth 100000 in
theorem match_some (a_s a_p : List UInt8) (a_n : Int) (a_v0 a_v1 a_v2 a_v3 : Bool) (a_l0 a_l1 a_l2 a_l3 : List UInt8) (b_s b_p : List UInt8) (b_n : Int) (b_v0 b_v1 b_v2 b_v3 : Bool) (b_l0 b_l1 b_l2 b_l3 : List UInt8) (ka : checkA ((a_s, a_p, a_n, (a_v0, a_l0), (a_v1, a_l1), (a_v2, a_l2), (a_v3, a_l3)) : Atm) = 0) (kb : checkA ((b_s, b_p, b_n, (b_v0, b_l0), (b_v1, b_l1), (b_v2, b_l2), (b_v3, b_l3)) : Atm) = 0) (hg : groundA ((b_s, b_p, b_n, (b_v0, b_l0), (b_v1, b_l1), (b_v2, b_l2), (b_v3, b_l3)) : Atm) = true) {m : List Bnd} (hm : uniA ((a_s, a_p, a_n, (a_v0, a_l0), (a_v1, a_l1), (a_v2, a_l2), (a_v3, a_l3)) : Atm) ((b_s, b_p, b_n, (b_v0, b_l0), (b_v1, b_l1), (b_v2, b_l2), (b_v3, b_l3)) : Atm) = some m) (w : World) :
    Calls Try.prog 14 #[.agg #[.string ⟨a_s.toArray⟩, .string ⟨a_p.toArray⟩, .int .i64 a_n, .bool a_v0, .string ⟨a_l0.toArray⟩, .bool a_v1, .string ⟨a_l1.toArray⟩, .bool a_v2, .string ⟨a_l2.toArray⟩, .bool a_v3, .string ⟨a_l3.toArray⟩], .agg #[.string ⟨b_s.toArray⟩, .string ⟨b_p.toArray⟩, .int .i64 b_n, .bool b_v0, .string ⟨b_l0.toArray⟩, .bool b_v1, .string ⟨b_l1.toArray⟩, .bool b_v2, .string ⟨b_l2.toArray⟩, .bool b_v3, .string ⟨b_l3.toArray⟩]] w fun e w' => ∃ v, e = .returned (.tuple #[v, .bool true]) ∧ RowS w' v m ∧ Since w w' := by
  have HE := Lib.hid (fun W => extend_any a_s a_p a_n a_v0 a_v1 a_v2 a_v3 a_l0 a_l1 a_l2 a_l3 b_s b_p b_n b_v0 b_v1 b_v2 b_v3 b_l0 b_l1 b_l2 b_l3 ka kb hg W)
  rw [hm] at HE
  clear hm ka kb hg
  have hS : Since w ((w.alloc (.cells #[.string ⟨a_s.toArray⟩, .string ⟨a_p.toArray⟩, .int .i64 a_n, .bool a_v0, .string ⟨a_l0.toArray⟩, .bool a_v1, .string ⟨a_l1.toArray⟩, .bool a_v2, .string ⟨a_l2.toArray⟩, .bool a_v3, .string ⟨a_l3.toArray⟩] 26)).alloc (.cells #[.string ⟨b_s.toArray⟩, .string ⟨b_p.toArray⟩, .int .i64 b_n, .bool b_v0, .string ⟨b_l0.toArray⟩, .bool b_v1, .string ⟨b_l1.toArray⟩, .bool b_v2, .string ⟨b_l2.toArray⟩, .bool b_v3, .string ⟨b_l3.toArray⟩] 26)) := ((Since.refl _).alloc _).alloc _
  have a_B : Box ((w.alloc (.cells #[.string ⟨a_s.toArray⟩, .string ⟨a_p.toArray⟩, .int .i64 a_n, .bool a_v0, .string ⟨a_l0.toArray⟩, .bool a_v1, .string ⟨a_l1.toArray⟩, .bool a_v2, .string ⟨a_l2.toArray⟩, .bool a_v3, .string ⟨a_l3.toArray⟩] 26)).alloc (.cells #[.string ⟨b_s.toArray⟩, .string ⟨b_p.toArray⟩, .int .i64 b_n, .bool b_v0, .string ⟨b_l0.toArray⟩, .bool b_v1, .string ⟨b_l1.toArray⟩, .bool b_v2, .string ⟨b_l2.toArray⟩, .bool b_v3, .string ⟨b_l3.toArray⟩] 26)) w.heap.size ((a_s, a_p, a_n, (a_v0, a_l0), (a_v1, a_l1), (a_v2, a_l2), (a_v3, a_l3)) : Atm) := (box_new w ((a_s, a_p, a_n, (a_v0, a_l0), (a_v1, a_l1), (a_v2, a_l2), (a_v3, a_l3)) : Atm) _).next ((Since.refl _).alloc _)
  have b_B : Box ((w.alloc (.cells #[.string ⟨a_s.toArray⟩, .string ⟨a_p.toArray⟩, .int .i64 a_n, .bool a_v0, .string ⟨a_l0.toArray⟩, .bool a_v1, .string ⟨a_l1.toArray⟩, .bool a_v2, .string ⟨a_l2.toArray⟩, .bool a_v3, .string ⟨a_l3.toArray⟩] 26)).alloc (.cells #[.string ⟨b_s.toArray⟩, .string ⟨b_p.toArray⟩, .int .i64 b_n, .bool b_v0, .string ⟨b_l0.toArray⟩, .bool b_v1, .string ⟨b_l1.toArray⟩, .bool b_v2, .string ⟨b_l2.toArray⟩, .bool b_v3, .string ⟨b_l3.toArray⟩] 26)) (w.heap.size + 1) ((b_s, b_p, b_n, (b_v0, b_l0), (b_v1, b_l1), (b_v2, b_l2), (b_v3, b_l3)) : Atm) := by
    have := box_new (w.alloc (.cells #[.string ⟨a_s.toArray⟩, .string ⟨a_p.toArray⟩, .int .i64 a_n, .bool a_v0, .string ⟨a_l0.toArray⟩, .bool a_v1, .string ⟨a_l1.toArray⟩, .bool a_v2, .string ⟨a_l2.toArray⟩, .bool a_v3, .string ⟨a_l3.toArray⟩] 26)) ((b_s, b_p, b_n, (b_v0, b_l0), (b_v1, b_l1), (b_v2, b_l2), (b_v3, b_l3)) : Atm) 26
    rwa [World.size_alloc] at this
  obtain ⟨a_c0, a_c1, a_c2, a_c3, a_c4, a_c5, a_c6, a_c7, a_c8, a_c9, a_c10⟩ := a_B.all
  obtain ⟨b_c0, b_c1, b_c2, b_c3, b_c4, b_c5, b_c6, b_c7, b_c8, b_c9, b_c10⟩ := b_B.all
  go_enter Try.func14, Try.ntmps14
  go_wp2_with fail
  refine (HE.out _).mono ?_
  rintro e w1 ⟨v, rfl, hv, hb⟩
  clear a_c0 a_c1 a_c2 a_c3 a_c4 a_c5 a_c6 a_c7 a_c8 a_c9 a_c10 b_c0 b_c1 b_c2 b_c3 b_c4 b_c5 b_c6 b_c7 b_c8 b_c9 b_c10 a_B b_B
  go_wp2_with fail
  go_ret2
  exact ⟨_, rfl, hv, hS.trans hb⟩
set_option maxHeartbeats 4000000 in
set_option maxRecDepth 100000 in
theorem match_none (a_s a_p : List UInt8) (a_n : Int) (a_v0 a_v1 a_v2 a_v3 : Bool) (a_l0 a_l1 a_l2 a_l3 : List UInt8) (b_s b_p : List UInt8) (b_n : Int) (b_v0 b_v1 b_v2 b_v3 : Bool) (b_l0 b_l1 b_l2 b_l3 : List UInt8) (ka : checkA ((a_s, a_p, a_n, (a_v0, a_l0), (a_v1, a_l1), (a_v2, a_l2), (a_v3, a_l3)) : Atm) = 0) (kb : checkA ((b_s, b_p, b_n, (b_v0, b_l0), (b_v1, b_l1), (b_v2, b_l2), (b_v3, b_l3)) : Atm) = 0) (hg : groundA ((b_s, b_p, b_n, (b_v0, b_l0), (b_v1, b_l1), (b_v2, b_l2), (b_v3, b_l3)) : Atm) = true) (hm : uniA ((a_s, a_p, a_n, (a_v0, a_l0), (a_v1, a_l1), (a_v2, a_l2), (a_v3, a_l3)) : Atm) ((b_s, b_p, b_n, (b_v0, b_l0), (b_v1, b_l1), (b_v2, b_l2), (b_v3, b_l3)) : Atm) = none) (w : World) :
    Calls Try.prog 14 #[.agg #[.string ⟨a_s.toArray⟩, .string ⟨a_p.toArray⟩, .int .i64 a_n, .bool a_v0, .string ⟨a_l0.toArray⟩, .bool a_v1, .string ⟨a_l1.toArray⟩, .bool a_v2, .string ⟨a_l2.toArray⟩, .bool a_v3, .string ⟨a_l3.toArray⟩], .agg #[.string ⟨b_s.toArray⟩, .string ⟨b_p.toArray⟩, .int .i64 b_n, .bool b_v0, .string ⟨b_l0.toArray⟩, .bool b_v1, .string ⟨b_l1.toArray⟩, .bool b_v2, .string ⟨b_l2.toArray⟩, .bool b_v3, .string ⟨b_l3.toArray⟩]] w fun e w' => e = .returned (.tuple #[.slice none 0 0, .bool false]) ∧ Since w w' := by
  have HE := Lib.hid (fun W => extend_any a_s a_p a_n a_v0 a_v1 a_v2 a_v3 a_l0 a_l1 a_l2 a_l3 b_s b_p b_n b_v0 b_v1 b_v2 b_v3 b_l0 b_l1 b_l2 b_l3 ka kb hg W)
  rw [hm] at HE
  clear hm ka kb hg
  have hS : Since w ((w.alloc (.cells #[.string ⟨a_s.toArray⟩, .string ⟨a_p.toArray⟩, .int .i64 a_n, .bool a_v0, .string ⟨a_l0.toArray⟩, .bool a_v1, .string ⟨a_l1.toArray⟩, .bool a_v2, .string ⟨a_l2.toArray⟩, .bool a_v3, .string ⟨a_l3.toArray⟩] 26)).alloc (.cells #[.string ⟨b_s.toArray⟩, .string ⟨b_p.toArray⟩, .int .i64 b_n, .bool b_v0, .string ⟨b_l0.toArray⟩, .bool b_v1, .string ⟨b_l1.toArray⟩, .bool b_v2, .string ⟨b_l2.toArray⟩, .bool b_v3, .string ⟨b_l3.toArray⟩] 26)) := ((Since.refl _).alloc _).alloc _
  have a_B : Box ((w.alloc (.cells #[.string ⟨a_s.toArray⟩, .string ⟨a_p.toArray⟩, .int .i64 a_n, .bool a_v0, .string ⟨a_l0.toArray⟩, .bool a_v1, .string ⟨a_l1.toArray⟩, .bool a_v2, .string ⟨a_l2.toArray⟩, .bool a_v3, .string ⟨a_l3.toArray⟩] 26)).alloc (.cells #[.string ⟨b_s.toArray⟩, .string ⟨b_p.toArray⟩, .int .i64 b_n, .bool b_v0, .string ⟨b_l0.toArray⟩, .bool b_v1, .string ⟨b_l1.toArray⟩, .bool b_v2, .string ⟨b_l2.toArray⟩, .bool b_v3, .string ⟨b_l3.toArray⟩] 26)) w.heap.size ((a_s, a_p, a_n, (a_v0, a_l0), (a_v1, a_l1), (a_v2, a_l2), (a_v3, a_l3)) : Atm) := (box_new w ((a_s, a_p, a_n, (a_v0, a_l0), (a_v1, a_l1), (a_v2, a_l2), (a_v3, a_l3)) : Atm) _).next ((Since.refl _).alloc _)
  have b_B : Box ((w.alloc (.cells #[.string ⟨a_s.toArray⟩, .string ⟨a_p.toArray⟩, .int .i64 a_n, .bool a_v0, .string ⟨a_l0.toArray⟩, .bool a_v1, .string ⟨a_l1.toArray⟩, .bool a_v2, .string ⟨a_l2.toArray⟩, .bool a_v3, .string ⟨a_l3.toArray⟩] 26)).alloc (.cells #[.string ⟨b_s.toArray⟩, .string ⟨b_p.toArray⟩, .int .i64 b_n, .bool b_v0, .string ⟨b_l0.toArray⟩, .bool b_v1, .string ⟨b_l1.toArray⟩, .bool b_v2, .string ⟨b_l2.toArray⟩, .bool b_v3, .string ⟨b_l3.toArray⟩] 26)) (w.heap.size + 1) ((b_s, b_p, b_n, (b_v0, b_l0), (b_v1, b_l1), (b_v2, b_l2), (b_v3, b_l3)) : Atm) := by
    have := box_new (w.alloc (.cells #[.string ⟨a_s.toArray⟩, .string ⟨a_p.toArray⟩, .int .i64 a_n, .bool a_v0, .string ⟨a_l0.toArray⟩, .bool a_v1, .string ⟨a_l1.toArray⟩, .bool a_v2, .string ⟨a_l2.toArray⟩, .bool a_v3, .string ⟨a_l3.toArray⟩] 26)) ((b_s, b_p, b_n, (b_v0, b_l0), (b_v1, b_l1), (b_v2, b_l2), (b_v3, b_l3)) : Atm) 26
    rwa [World.size_alloc] at this
  obtain ⟨a_c0, a_c1, a_c2, a_c3, a_c4, a_c5, a_c6, a_c7, a_c8, a_c9, a_c10⟩ := a_B.all
  obtain ⟨b_c0, b_c1, b_c2, b_c3, b_c4, b_c5, b_c6, b_c7, b_c8, b_c9, b_c10⟩ := b_B.all
  go_enter Try.func14, Try.ntmps14
  go_wp2_with fail
  refine (HE.out _).mono ?_
  rintro e w1 ⟨rfl, hb⟩
  clear a_c0 a_c1 a_c2 a_c3 a_c4 a_c5 a_c6 a_c7 a_c8 a_c9 a_c10 b_c0 b_c1 b_c2 b_c3 b_c4 b_c5 b_c6 b_c7 b_c8 b_c9 b_c10 a_B b_B
  go_wp2_with fail
  go_ret2
  exact ⟨rfl, hS.trans hb⟩
end Go.Proofs.Ytohcehjpdmhjlaa
