/- Clauses that may be: check.sound. -/
import Derived.Test.YtdlnmkdbjgbimaaGreatDoorASet
import Derived.Test.YtdlnmkdbjgbimaaGreatDoorNest
import Derived.Test.YtdlnmkdbjgbimaaGreatDoorTermN
import Derived.Test.YtdlnmkdbjgbimaaGreatDoorTermP
namespace Go.Proofs.YtdlnmkdbjgbimaaGreatDoor
open Go.RowKit

/-- May a clause be? -/
def clauseB (c : Cls) : Bool := (c.2.all fun a => checkA a == 0) && (((namesA c.1 true).all fun v => (c.2.flatMap fun a => namesA a true).contains v) && (checkA c.1 == 0))
def factB (a : Atm) : Bool := checkA a == 0 && groundA a
def FitsC (c : Cls) : Prop := FitsN c.1 ∧ ∀ a ∈ c.2, FitsN a
theorem names_fit {a : Atm} (h : FitsA a) (vars : Bool) : ∀ x ∈ namesA a vars, x.length ≤ maxLen := by
  intro x hx
  unfold namesA at hx
  rw [namesF_mem] at hx
  rcases hx with h1 | h1
  · cases h1
  · exact h.2.2 (vars, x) (List.mem_of_mem_take h1)
theorem names_few (a : Atm) : (namesA a true).length ≤ 4 := by
  have h1 := names_len a
  have h2 := countA_le a
  omega
theorem own_farK {w w' : World} {base g : Nat} {e : TypeId} {size : Nat} {v : Value} {n : Nat} {xs : List Value} (h : w.ownsRow base e size v n xs) (hg : w.grownBy w' (some g)) (hb : g < base) : w'.ownsRow base e size v n xs := by
  refine h.kept hg ?_
  cases hv : v.ownBlock with
  | none => exact .inl rfl
  | some b =>
    refine .inr fun e => ?_
    have h1 := (h.lt b hv).1
    injection e with e
    omega
set_option maxHeartbeats 8000000 in
set_option maxRecDepth 100000 in
theorem ksound_any (a_s a_p : List UInt8) (a_n : Int) (a_v0 a_v1 a_v2 a_v3 : Bool) (a_l0 a_l1 a_l2 a_l3 : List UInt8) (va : Option Addr) (nb cb : Nat) (L : List Atm) (w : World) (hv : ARow w (.slice va nb cb) L) (hm : L.length ≤ 100000) (hf : FitsA ((a_s, a_p, a_n, (a_v0, a_l0), (a_v1, a_l1), (a_v2, a_l2), (a_v3, a_l3)) : Atm)) (hF : ∀ x ∈ L, FitsA x) (hE : Env w) :
    Calls Tryz.prog 29 #[.agg #[.string ⟨a_s.toArray⟩, .string ⟨a_p.toArray⟩, .int .i64 a_n, .bool a_v0, .string ⟨a_l0.toArray⟩, .bool a_v1, .string ⟨a_l1.toArray⟩, .bool a_v2, .string ⟨a_l2.toArray⟩, .bool a_v3, .string ⟨a_l3.toArray⟩, .slice va nb cb]] w fun e w' => e = .returned (.bool (clauseB (((a_s, a_p, a_n, (a_v0, a_l0), (a_v1, a_l1), (a_v2, a_l2), (a_v3, a_l3)) : Atm), L))) ∧ Since w w' := by
  have hA : Since w (w.alloc (.cells #[.string ⟨a_s.toArray⟩, .string ⟨a_p.toArray⟩, .int .i64 a_n, .bool a_v0, .string ⟨a_l0.toArray⟩, .bool a_v1, .string ⟨a_l1.toArray⟩, .bool a_v2, .string ⟨a_l2.toArray⟩, .bool a_v3, .string ⟨a_l3.toArray⟩, .slice va nb cb] 47)) := (Since.refl _).alloc _
  have hn := hv.form
  subst hn
  have HV := Lib.hid (anext hv hA)
  have HE := Lib.hid (hE.next hA)
  have hC : Cel (w.alloc (.cells #[.string ⟨a_s.toArray⟩, .string ⟨a_p.toArray⟩, .int .i64 a_n, .bool a_v0, .string ⟨a_l0.toArray⟩, .bool a_v1, .string ⟨a_l1.toArray⟩, .bool a_v2, .string ⟨a_l2.toArray⟩, .bool a_v3, .string ⟨a_l3.toArray⟩, .slice va L.length cb] 47)) w.heap.size #[.string ⟨a_s.toArray⟩, .string ⟨a_p.toArray⟩, .int .i64 a_n, .bool a_v0, .string ⟨a_l0.toArray⟩, .bool a_v1, .string ⟨a_l1.toArray⟩, .bool a_v2, .string ⟨a_l2.toArray⟩, .bool a_v3, .string ⟨a_l3.toArray⟩, .slice va L.length cb] 47 := heap_alloc_new w _
  have c0 : (w.alloc (.cells #[.string ⟨a_s.toArray⟩, .string ⟨a_p.toArray⟩, .int .i64 a_n, .bool a_v0, .string ⟨a_l0.toArray⟩, .bool a_v1, .string ⟨a_l1.toArray⟩, .bool a_v2, .string ⟨a_l2.toArray⟩, .bool a_v3, .string ⟨a_l3.toArray⟩, .slice va L.length cb] 47)).cell? ⟨w.heap.size, 0, none⟩ = some (.string ⟨a_s.toArray⟩) := hC.cell 0
  have c1 : (w.alloc (.cells #[.string ⟨a_s.toArray⟩, .string ⟨a_p.toArray⟩, .int .i64 a_n, .bool a_v0, .string ⟨a_l0.toArray⟩, .bool a_v1, .string ⟨a_l1.toArray⟩, .bool a_v2, .string ⟨a_l2.toArray⟩, .bool a_v3, .string ⟨a_l3.toArray⟩, .slice va L.length cb] 47)).cell? ⟨w.heap.size, 1, none⟩ = some (.string ⟨a_p.toArray⟩) := hC.cell 1
  have c2 : (w.alloc (.cells #[.string ⟨a_s.toArray⟩, .string ⟨a_p.toArray⟩, .int .i64 a_n, .bool a_v0, .string ⟨a_l0.toArray⟩, .bool a_v1, .string ⟨a_l1.toArray⟩, .bool a_v2, .string ⟨a_l2.toArray⟩, .bool a_v3, .string ⟨a_l3.toArray⟩, .slice va L.length cb] 47)).cell? ⟨w.heap.size, 2, none⟩ = some (.int .i64 a_n) := hC.cell 2
  have c3 : (w.alloc (.cells #[.string ⟨a_s.toArray⟩, .string ⟨a_p.toArray⟩, .int .i64 a_n, .bool a_v0, .string ⟨a_l0.toArray⟩, .bool a_v1, .string ⟨a_l1.toArray⟩, .bool a_v2, .string ⟨a_l2.toArray⟩, .bool a_v3, .string ⟨a_l3.toArray⟩, .slice va L.length cb] 47)).cell? ⟨w.heap.size, 3, none⟩ = some (.bool a_v0) := hC.cell 3
  have c4 : (w.alloc (.cells #[.string ⟨a_s.toArray⟩, .string ⟨a_p.toArray⟩, .int .i64 a_n, .bool a_v0, .string ⟨a_l0.toArray⟩, .bool a_v1, .string ⟨a_l1.toArray⟩, .bool a_v2, .string ⟨a_l2.toArray⟩, .bool a_v3, .string ⟨a_l3.toArray⟩, .slice va L.length cb] 47)).cell? ⟨w.heap.size, 4, none⟩ = some (.string ⟨a_l0.toArray⟩) := hC.cell 4
  have c5 : (w.alloc (.cells #[.string ⟨a_s.toArray⟩, .string ⟨a_p.toArray⟩, .int .i64 a_n, .bool a_v0, .string ⟨a_l0.toArray⟩, .bool a_v1, .string ⟨a_l1.toArray⟩, .bool a_v2, .string ⟨a_l2.toArray⟩, .bool a_v3, .string ⟨a_l3.toArray⟩, .slice va L.length cb] 47)).cell? ⟨w.heap.size, 5, none⟩ = some (.bool a_v1) := hC.cell 5
  have c6 : (w.alloc (.cells #[.string ⟨a_s.toArray⟩, .string ⟨a_p.toArray⟩, .int .i64 a_n, .bool a_v0, .string ⟨a_l0.toArray⟩, .bool a_v1, .string ⟨a_l1.toArray⟩, .bool a_v2, .string ⟨a_l2.toArray⟩, .bool a_v3, .string ⟨a_l3.toArray⟩, .slice va L.length cb] 47)).cell? ⟨w.heap.size, 6, none⟩ = some (.string ⟨a_l1.toArray⟩) := hC.cell 6
  have c7 : (w.alloc (.cells #[.string ⟨a_s.toArray⟩, .string ⟨a_p.toArray⟩, .int .i64 a_n, .bool a_v0, .string ⟨a_l0.toArray⟩, .bool a_v1, .string ⟨a_l1.toArray⟩, .bool a_v2, .string ⟨a_l2.toArray⟩, .bool a_v3, .string ⟨a_l3.toArray⟩, .slice va L.length cb] 47)).cell? ⟨w.heap.size, 7, none⟩ = some (.bool a_v2) := hC.cell 7
  have c8 : (w.alloc (.cells #[.string ⟨a_s.toArray⟩, .string ⟨a_p.toArray⟩, .int .i64 a_n, .bool a_v0, .string ⟨a_l0.toArray⟩, .bool a_v1, .string ⟨a_l1.toArray⟩, .bool a_v2, .string ⟨a_l2.toArray⟩, .bool a_v3, .string ⟨a_l3.toArray⟩, .slice va L.length cb] 47)).cell? ⟨w.heap.size, 8, none⟩ = some (.string ⟨a_l2.toArray⟩) := hC.cell 8
  have c9 : (w.alloc (.cells #[.string ⟨a_s.toArray⟩, .string ⟨a_p.toArray⟩, .int .i64 a_n, .bool a_v0, .string ⟨a_l0.toArray⟩, .bool a_v1, .string ⟨a_l1.toArray⟩, .bool a_v2, .string ⟨a_l2.toArray⟩, .bool a_v3, .string ⟨a_l3.toArray⟩, .slice va L.length cb] 47)).cell? ⟨w.heap.size, 9, none⟩ = some (.bool a_v3) := hC.cell 9
  have c10 : (w.alloc (.cells #[.string ⟨a_s.toArray⟩, .string ⟨a_p.toArray⟩, .int .i64 a_n, .bool a_v0, .string ⟨a_l0.toArray⟩, .bool a_v1, .string ⟨a_l1.toArray⟩, .bool a_v2, .string ⟨a_l2.toArray⟩, .bool a_v3, .string ⟨a_l3.toArray⟩, .slice va L.length cb] 47)).cell? ⟨w.heap.size, 10, none⟩ = some (.string ⟨a_l3.toArray⟩) := hC.cell 10
  have c11 : (w.alloc (.cells #[.string ⟨a_s.toArray⟩, .string ⟨a_p.toArray⟩, .int .i64 a_n, .bool a_v0, .string ⟨a_l0.toArray⟩, .bool a_v1, .string ⟨a_l1.toArray⟩, .bool a_v2, .string ⟨a_l2.toArray⟩, .bool a_v3, .string ⟨a_l3.toArray⟩, .slice va L.length cb] 47)).cell? ⟨w.heap.size, 11, none⟩ = some (.slice va L.length cb) := hC.cell 11
  have HF := Lib.hid hF
  have HCK := Lib.hid (fun W hE => check_any a_s a_p a_n a_v0 a_v1 a_v2 a_v3 a_l0 a_l1 a_l2 a_l3 W hf hE)
  have HVR := Lib.hid (fun W => vars_any a_s a_p a_n a_v0 a_v1 a_v2 a_v3 a_l0 a_l1 a_l2 a_l3 W)
  have HNF := Lib.hid (names_fit hf true)
  obtain ⟨R, hR⟩ : ∃ R, Hid (R = clauseB (((a_s, a_p, a_n, (a_v0, a_l0), (a_v1, a_l1), (a_v2, a_l2), (a_v3, a_l3)) : Atm), L)) := ⟨_, rfl⟩
  have hR0 : Hid (R = ((L.all fun a => checkA a == 0) && (((namesA ((a_s, a_p, a_n, (a_v0, a_l0), (a_v1, a_l1), (a_v2, a_l2), (a_v3, a_l3)) : Atm) true).all fun v => (L.flatMap fun a => namesA a true).contains v) && (checkA ((a_s, a_p, a_n, (a_v0, a_l0), (a_v1, a_l1), (a_v2, a_l2), (a_v3, a_l3)) : Atm) == 0)))) := hR
  rw [← hR.out]
  obtain ⟨HD, hHD⟩ : ∃ n, Hid (n = namesA ((a_s, a_p, a_n, (a_v0, a_l0), (a_v1, a_l1), (a_v2, a_l2), (a_v3, a_l3)) : Atm) true) := ⟨_, rfl⟩
  have hHL := names_few ((a_s, a_p, a_n, (a_v0, a_l0), (a_v1, a_l1), (a_v2, a_l2), (a_v3, a_l3)) : Atm)
  rw [← hHD.out] at hR0 HVR HNF hHL
  obtain ⟨CK, hCK⟩ : ∃ n, Hid (n = checkA ((a_s, a_p, a_n, (a_v0, a_l0), (a_v1, a_l1), (a_v2, a_l2), (a_v3, a_l3)) : Atm)) := ⟨_, rfl⟩
  rw [← hCK.out] at hR0 HCK
  clear hv hE hC hF hR hf hHD hCK
  have hmk := @run_makeMap Tryz.prog
  go_enter Tryz.func29, Tryz.ntmps29
  go_wp2_with fail
  obtain ⟨w1, hw1⟩ : ∃ w1, Hid (w.alloc (.cells #[.string ⟨a_s.toArray⟩, .string ⟨a_p.toArray⟩, .int .i64 a_n, .bool a_v0, .string ⟨a_l0.toArray⟩, .bool a_v1, .string ⟨a_l1.toArray⟩, .bool a_v2, .string ⟨a_l2.toArray⟩, .bool a_v3, .string ⟨a_l3.toArray⟩, .slice va L.length cb] 47) = w1) := ⟨_, rfl⟩
  have hset : SetAt ((w.alloc (.cells #[.string ⟨a_s.toArray⟩, .string ⟨a_p.toArray⟩, .int .i64 a_n, .bool a_v0, .string ⟨a_l0.toArray⟩, .bool a_v1, .string ⟨a_l1.toArray⟩, .bool a_v2, .string ⟨a_l2.toArray⟩, .bool a_v3, .string ⟨a_l3.toArray⟩, .slice va L.length cb] 47)).alloc (.map #[] 0)) (w.heap.size + 1) 0 [] := by
    have h := set_made (w.alloc (.cells #[.string ⟨a_s.toArray⟩, .string ⟨a_p.toArray⟩, .int .i64 a_n, .bool a_v0, .string ⟨a_l0.toArray⟩, .bool a_v1, .string ⟨a_l1.toArray⟩, .bool a_v2, .string ⟨a_l2.toArray⟩, .bool a_v3, .string ⟨a_l3.toArray⟩, .slice va L.length cb] 47))
    rwa [World.size_alloc] at h
  have hS1 : Since (w.alloc (.cells #[.string ⟨a_s.toArray⟩, .string ⟨a_p.toArray⟩, .int .i64 a_n, .bool a_v0, .string ⟨a_l0.toArray⟩, .bool a_v1, .string ⟨a_l1.toArray⟩, .bool a_v2, .string ⟨a_l2.toArray⟩, .bool a_v3, .string ⟨a_l3.toArray⟩, .slice va L.length cb] 47)) ((w.alloc (.cells #[.string ⟨a_s.toArray⟩, .string ⟨a_p.toArray⟩, .int .i64 a_n, .bool a_v0, .string ⟨a_l0.toArray⟩, .bool a_v1, .string ⟨a_l1.toArray⟩, .bool a_v2, .string ⟨a_l2.toArray⟩, .bool a_v3, .string ⟨a_l3.toArray⟩, .slice va L.length cb] 47)).alloc (.map #[] 0)) := (Since.refl _).alloc _
  have hz1 : w1.heap.size = w.heap.size + 1 := by rw [← hw1.out]; simp
  rw [hw1.out] at HV HE hset hS1 hA c0 c1 c2 c3 c4 c5 c6 c7 c8 c9 c10 c11 ⊢
  clear hw1
  have m11 := hS1.cell c11
  go_wp2_with fail
  go_loopw [16] (fun i wr => ∃ (k n : Nat), k ≤ L.length ∧ i = .int .i64 (k : Int) ∧ Since w1 wr ∧ n ≤ 4 * k ∧ SetAt wr (w.heap.size + 1) n ((L.take k).flatMap fun a => namesA a true) ∧ Hid ((L.take k).all (fun a => checkA a == 0) = true)) (fun i _ => L.length - (intOf i).toNat)
  case atStart => exact ⟨0, 0, by omega, rfl, hS1, by omega, by simpa using hset, by show _ = _; simp⟩
  case round =>
    clear hset hS1
    obtain ⟨k, n, hk, rfl, hS, hnn, hset, hres⟩ := hrel
    by_cases hlt : k < L.length
    · have hki : (k : Int) < (L.length : Int) := by omega
      obtain ⟨b, ob, rfl, hc, hat⟩ := (anext HV.out hS).get (by omega)
      have d1 := hat k hlt
      have hfx := HF.out _ (List.getElem_mem hlt)
      have htk : L.take (k + 1) = L.take k ++ [L[k]] := List.take_succ_eq_append_getElem hlt
      have hall : checkA L[k] ≠ 0 → (L.all fun a => checkA a == 0) = false := fun h => by
        cases hh : L.all fun a => checkA a == 0
        · rfl
        · have := List.all_eq_true.1 hh _ (List.getElem_mem hlt)
          exact absurd (by simpa using this) h
      have HTK := Lib.hid htk
      have HALL := Lib.hid hall
      clear hat htk hall
      generalize L[k] = x at *
      obtain ⟨x_s, x_p, x_n, ⟨x_v0, x_l0⟩, ⟨x_v1, x_l1⟩, ⟨x_v2, x_l2⟩, ⟨x_v3, x_l3⟩⟩ := x
      obtain ⟨x_c0, x_c1, x_c2, x_c3, x_c4, x_c5, x_c6, x_c7, x_c8, x_c9, x_c10⟩ := d1.all
      have HCX := Lib.hid (fun W hE => check_any x_s x_p x_n x_v0 x_v1 x_v2 x_v3 x_l0 x_l1 x_l2 x_l3 W hfx hE)
      have HVX := Lib.hid (fun W => vars_any x_s x_p x_n x_v0 x_v1 x_v2 x_v3 x_l0 x_l1 x_l2 x_l3 W)
      have hNX := names_fit hfx true
      have hNL := names_few ((x_s, x_p, x_n, (x_v0, x_l0), (x_v1, x_l1), (x_v2, x_l2), (x_v3, x_l3)) : Atm)
      have x_B : Box (wr.alloc (.cells #[.string ⟨x_s.toArray⟩, .string ⟨x_p.toArray⟩, .int .i64 x_n, .bool x_v0, .string ⟨x_l0.toArray⟩, .bool x_v1, .string ⟨x_l1.toArray⟩, .bool x_v2, .string ⟨x_l2.toArray⟩, .bool x_v3, .string ⟨x_l3.toArray⟩] 29)) wr.heap.size ((x_s, x_p, x_n, (x_v0, x_l0), (x_v1, x_l1), (x_v2, x_l2), (x_v3, x_l3)) : Atm) := box_new wr _ _
      have hSx : Since wr (wr.alloc (.cells #[.string ⟨x_s.toArray⟩, .string ⟨x_p.toArray⟩, .int .i64 x_n, .bool x_v0, .string ⟨x_l0.toArray⟩, .bool x_v1, .string ⟨x_l1.toArray⟩, .bool x_v2, .string ⟨x_l2.toArray⟩, .bool x_v3, .string ⟨x_l3.toArray⟩] 29)) := (Since.refl _).alloc _
      have hEx := (HE.out.next hS).next hSx
      obtain ⟨VX, hVX⟩ : ∃ n, Hid (n = namesA ((x_s, x_p, x_n, (x_v0, x_l0), (x_v1, x_l1), (x_v2, x_l2), (x_v3, x_l3)) : Atm) true) := ⟨_, rfl⟩
      rw [← hVX.out] at HVX hNX hNL
      by_cases hck : checkA ((x_s, x_p, x_n, (x_v0, x_l0), (x_v1, x_l1), (x_v2, x_l2), (x_v3, x_l3)) : Atm) = 0
      · rw [hck] at HCX
        have hres2 : Hid ((L.take (k + 1)).all (fun a => checkA a == 0) = true) := by
          show _ = _
          rw [HTK.out, List.all_append, hres.out]
          simp [hck]
        have hset2 : Hid ((L.take (k + 1)).flatMap (fun a => namesA a true) = (L.take k).flatMap (fun a => namesA a true) ++ VX) := by
          show _ = _
          rw [HTK.out, List.flatMap_append, hVX.out]
          simp
        obtain ⟨SK, hSK⟩ : ∃ S, Hid (S = (L.take k).flatMap fun a => namesA a true) := ⟨_, rfl⟩
        rw [← hSK.out] at hset hset2
        clear hck hVX hres HTK d1 hfx HALL hSK
        go_wp2_with fail
        refine (HCX.out _ hEx).mono ?_
        rintro e w5 ⟨rfl, hb⟩
        replace x_B := x_B.next hb
        replace hset := (hset.next hSx).next hb
        replace hS := (hS.trans hSx).trans hb
        clear hb x_c0 x_c1 x_c2 x_c3 x_c4 x_c5 x_c6 x_c7 x_c8 x_c9 x_c10 hSx hEx
        obtain ⟨x_c0, x_c1, x_c2, x_c3, x_c4, x_c5, x_c6, x_c7, x_c8, x_c9, x_c10⟩ := x_B.all
        go_wp2_with fail
        refine (HVX.out _).mono ?_
        rintro e w6 ⟨vx, rfl, hown, hb⟩
        have hlb : w.heap.size + 1 < w5.heap.size := World.ownsMap.lt hset
        replace hset := hset.next hb
        replace hS := hS.trans hb
        clear x_c0 x_c1 x_c2 x_c3 x_c4 x_c5 x_c6 x_c7 x_c8 x_c9 x_c10 x_B
        obtain ⟨ax, cx, rfl⟩ := (row_of_own hown).len
        go_wp2_with fail
        go_loopw [26] (fun i wi => ∃ (j m : Nat), j ≤ VX.length ∧ i = .int .i64 (j : Int) ∧ Since w1 wi ∧ m ≤ n + j ∧ SetAt wi (w.heap.size + 1) m (SK ++ VX.take j) ∧ wi.ownsRow w5.heap.size 9 1 (.slice ax VX.length cx) VX.length (VX.map strV)) (fun i _ => VX.length - (intOf i).toNat)
        case atStart => exact ⟨0, n, by omega, rfl, hS, by omega, by simpa using hset, hown⟩
        case round =>
          clear hset hS hown
          obtain ⟨j, m, hj, rfl, hS, hmm, hset, hown⟩ := hrel
          by_cases hjl : j < VX.length
          · have hji : (j : Int) < (VX.length : Int) := by omega
            have hrow := row_of_own hown
            obtain ⟨br, orr, cr, he, hcr, hcell⟩ := hrow.some (by omega)
            obtain ⟨rfl, -, rfl⟩ : ax = some ⟨br, orr, none⟩ ∧ True ∧ cx = cr := by injection he with h1 h2 h3; exact ⟨h1, trivial, h3⟩
            have hc0 := hcell j (by simpa using hjl)
            rw [List.getElem_map] at hc0
            have hxf := hNX _ (List.getElem_mem hjl)
            have htj : VX.take (j + 1) = VX.take j ++ [VX[j]] := List.take_succ_eq_append_getElem hjl
            have HTJ := Lib.hid htj
            clear hcell htj hrow he
            generalize VX[j] = x at *
            simp only [strV] at hc0
            go_wp2_with (at_mapUpdate; refine update_set _ rfl (.tmp 30) (.tmp 31) (.tmp 32) rfl (w.heap.size + 1) m _ rfl hset (by unfold maxLen; omega) x hxf rfl rfl ?_; intro w9 hset9 hg9)
            have hS9 := since_update hS hg9 (by omega)
            have hown9 := own_farK hown hg9 hlb
            clear hg9 hset hown
            go_roundw
            case rel => exact ⟨j + 1, m + 1, by omega, by go_num, hS9, by omega, by rw [HTJ.out, ← List.append_assoc]; exact hset9, hown9⟩
            case measure => simp [intOf]; omega
          · have hji : ¬ (j : Int) < (VX.length : Int) := by omega
            have hsj : SetAt wr (w.heap.size + 1) m ((L.take (k + 1)).flatMap fun a => namesA a true) := by
              rw [hset2.out]
              rw [List.take_of_length_le (by omega)] at hset
              exact hset
            clear hset hown
            go_wp2_with fail
            go_roundw
            case rel => exact ⟨k + 1, m, by omega, by go_num, hS, by omega, hsj, hres2.out⟩
            case measure => simp [intOf]; omega
      · have hRf : Hid (R = false) := by show _ = _; rw [hR0.out, HALL.out hck, Bool.false_and]
        clear hR0 hres HTK d1 hfx HALL hVX
        go_wp2_with fail
        refine (HCX.out _ hEx).mono ?_
        rintro e w5 ⟨rfl, hb⟩
        go_wp2_with fail
        go_ret
        exact ⟨ret_bool hRf.out.symm, ((hA.trans hS).trans hSx).trans hb⟩
    · have hki : ¬ (k : Int) < (L.length : Int) := by omega
      have hall : L.all (fun a => checkA a == 0) = true := by
        have h := hres.out
        rw [List.take_of_length_le (by omega)] at h
        exact h
      rw [List.take_of_length_le (by omega)] at hset
      have hR1 : Hid (R = ((HD.all fun v => (L.flatMap fun a => namesA a true).contains v) && (CK == 0))) := by show _ = _; rw [hR0.out, hall, Bool.true_and]
      obtain ⟨SL, hSL⟩ : ∃ S, Hid (S = L.flatMap fun a => namesA a true) := ⟨_, rfl⟩
      rw [← hSL.out] at hset hR1
      have u0 := hS.cell c0
      have u1 := hS.cell c1
      have u2 := hS.cell c2
      have u3 := hS.cell c3
      have u4 := hS.cell c4
      have u5 := hS.cell c5
      have u6 := hS.cell c6
      have u7 := hS.cell c7
      have u8 := hS.cell c8
      have u9 := hS.cell c9
      have u10 := hS.cell c10
      clear hR0 hres hall hSL
      go_wp2_with fail
      refine (HVR.out _).mono ?_
      rintro e w6 ⟨vx, rfl, hown, hb⟩
      have hset6 := hset.next hb
      have hS6 := hS.trans hb
      clear hset hb
      obtain ⟨ax, cx, rfl⟩ := (row_of_own hown).len
      have HROW := Lib.hid (row_of_own hown)
      have HSET := Lib.hid hset6
      clear hown hset6 u0 u1 u2 u3 u4 u5 u6 u7 u8 u9 u10
      go_wp2_with fail
      go_loopw [39] (fun i wi => ∃ j : Nat, j ≤ HD.length ∧ i = .int .i64 (j : Int) ∧ Since w6 wi ∧ Hid ((HD.take j).all (fun v => SL.contains v) = true)) (fun i _ => HD.length - (intOf i).toNat)
      case atStart => exact ⟨0, by omega, rfl, Since.refl _, by show _ = _; simp⟩
      case round =>
        obtain ⟨j, hj, rfl, hSi, hres⟩ := hrel
        by_cases hjl : j < HD.length
        · have hji : (j : Int) < (HD.length : Int) := by omega
          obtain ⟨br, orr, cr, he, hcr, hcell⟩ := (HROW.out.next hSi).some (by omega)
          obtain ⟨rfl, -, rfl⟩ : ax = some ⟨br, orr, none⟩ ∧ True ∧ cx = cr := by injection he with h1 h2 h3; exact ⟨h1, trivial, h3⟩
          have hc0 := hcell j (by simpa using hjl)
          rw [List.getElem_map] at hc0
          have hxf := HNF.out _ (List.getElem_mem hjl)
          have htj : HD.take (j + 1) = HD.take j ++ [HD[j]] := List.take_succ_eq_append_getElem hjl
          have hno : SL.contains HD[j] = false → (HD.all fun v => SL.contains v) = false := fun h => by
            cases hh : HD.all fun v => SL.contains v
            · rfl
            · have := List.all_eq_true.1 hh _ (List.getElem_mem hjl)
              rw [h] at this; cases this
          have HTJ := Lib.hid htj
          have HNO := Lib.hid hno
          clear hcell htj he hno
          generalize HD[j] = x at *
          simp only [strV] at hc0
          have hsi := HSET.out.next hSi
          cases hct : SL.contains x
          · have hRf : Hid (R = false) := by show _ = _; rw [hR1.out, HNO.out hct, Bool.false_and]
            clear hR1 hres HTJ HNO
            go_wp2_with (at_lookup; refine lookup_set _ rfl (.tmp 44) (.tmp 45) rfl (w.heap.size + 1) _ SL rfl hsi x hxf rfl false hct ?_)
            go_ret
            exact ⟨ret_bool hRf.out.symm, ((hA.trans hS6).trans hSi).alloc _⟩
          · have hres2 : Hid ((HD.take (j + 1)).all (fun v => SL.contains v) = true) := by
              show _ = _
              rw [HTJ.out, List.all_append, hres.out]
              simpa using hct
            clear hres HTJ HNO
            go_wp2_with (at_lookup; refine lookup_set _ rfl (.tmp 44) (.tmp 45) rfl (w.heap.size + 1) _ SL rfl hsi x hxf rfl true hct ?_)
            go_roundw
            case rel => exact ⟨j + 1, by omega, by go_num, hSi.alloc _, hres2.out⟩
            case measure => simp [intOf]; omega
        · have hji : ¬ (j : Int) < (HD.length : Int) := by omega
          have hall : HD.all (fun v => SL.contains v) = true := by
            have h := hres.out
            rw [List.take_of_length_le (by omega)] at h
            exact h
          have hRC : Hid (R = (CK == 0)) := by show _ = _; rw [hR1.out, hall, Bool.true_and]
          have e0 := (hS6.trans hSi).cell c0
          have e1 := (hS6.trans hSi).cell c1
          have e2 := (hS6.trans hSi).cell c2
          have e3 := (hS6.trans hSi).cell c3
          have e4 := (hS6.trans hSi).cell c4
          have e5 := (hS6.trans hSi).cell c5
          have e6 := (hS6.trans hSi).cell c6
          have e7 := (hS6.trans hSi).cell c7
          have e8 := (hS6.trans hSi).cell c8
          have e9 := (hS6.trans hSi).cell c9
          have e10 := (hS6.trans hSi).cell c10
          have hck := HCK.out wr (HE.out.next (hS6.trans hSi))
          clear hR1 hall hres
          go_wp2_with fail
          refine hck.mono ?_
          rintro e w9 ⟨rfl, hb⟩
          go_wp2_with fail
          go_ret
          exact ⟨ret_bool hRC.out.symm, ((hA.trans hS6).trans hSi).trans hb⟩
end Go.Proofs.YtdlnmkdbjgbimaaGreatDoor
