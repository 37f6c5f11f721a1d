/- variant.Canon. -/
import Derived.Test.YtbgdljcgbhhfdaaGreatDoorVarP
import Derived.Test.YtbgdljcgbhhfdaaGreatDoorShelf
import Derived.Test.YtbgdljcgbhhfdaaGreatDoorRef3N
namespace Go.Proofs.YtbgdljcgbhhfdaaGreatDoor
open Go.RowKit Go.Maps Go.WideMaps

theorem itoaS (j : Nat) (h : j < 100) (w : World) : Calls Tryz.prog 49 #[.int .i64 (j : Int)] w fun e w' => e = .returned (.string ⟨(Lib.decDigits j).toArray⟩) ∧ Since w w' :=
  (Tryz.strconv_Itoa_small j h w).mono fun _ _ ⟨h1, h2⟩ => ⟨h1, h2 ▸ Since.refl _⟩
theorem run_catC {a b c : ByteArray} (h : a ++ b = c) (hl : a.size + b.size ≤ 1000000) (W : World) : (Op.stringOp .add a b).run Tryz.prog W = .ok (.string c) W := by
  subst h
  exact run_string_add W a b (by omega) (by omega)
def zeroAC : Atm := ([], [], 0, (false, []), (false, []), (false, []), (false, []))
theorem KIdx.mono {α : Type} {k : TypeId} {kl : α → Lit} {W : World} {b n n' : Nat} {P : List α} (h : KIdx k kl W b n P) (hn : n ≤ n') : KIdx k kl W b n' P := World.ownsMap.mono h hn
theorem tkey (s : Txt) (h : s.length ≤ maxLen) : keyOf Tryz.prog 9 (.string ⟨s.toArray⟩) = some (.string s) := keyOf_string_mk Tryz.underlying9 (s := ⟨s.toArray⟩) h
theorem tinj {P : List Txt} {a : Txt} : ∀ x ∈ P, Lit.string x = Lit.string a → x = a := fun x _ h => by injection h
theorem cel_boxA {W : World} {g : Nat} {T : TypeId} {x : Atm} (h : Cel W g (atmC x) T) : Box W g x := by
  intro j hj
  have h1 := h.cell j
  rw [h1, Array.getElem?_eq_getElem hj]
theorem ainfoC : (Tryz.prog.info? 33).map (·.size) = some 11 := by kernel_rfl
theorem digits4 {j : Nat} (h : j < 4) : (Lib.decDigits j).length ≤ 10 := by
  rw [Lib.decDigits, dif_pos (by omega)]
  simp
theorem kidx_cell {α : Type} {k : TypeId} {kl : α → Lit} {W : World} {b n g j : Nat} {P : List α} (h : KIdx k kl W b n P) (hne : g ≠ b) (u : Value) : KIdx k kl (W.setCell ⟨g, j, none⟩ u) b n P := by
  have bb := Below.setCell (p := ⟨g, j, none⟩) (Below.refl 0 W) (Nat.zero_le _) u
  exact h.far (row := some g) ⟨bb.os, bb.tape, bb.output, bb.size, fun i _ hi => Below.heap_setCell W _ u i (fun e => hi (by rw [e]))⟩ (fun e => hne (by injection e with e; exact e.symm))
theorem since_setRow {w W : World} {B : Nat} (h : Since w W) (hB : w.heap.size ≤ B) (cs : Array Value) : Since w (W.setRow B cs) :=
  Below.grown h (row := some B) ⟨rfl, rfl, rfl, by simp, fun k hk hne => setRow_other W B k cs (fun e => hne (by rw [e]))⟩ h.size (fun k hk => by injection hk with hk; omega)
theorem tlen {W : World} {b n : Nat} {P : List Txt} (h : TIdx W b n P) (hn : P.Nodup) (ty : TypeId) : (Builtin.len_ #[85] ty #[.map (some b)]).run Tryz.prog W = .ok (.int .i64 (P.length : Int)) W := by
  have h1 := World.ownsMap.len h Tryz.underlying85 ty
  rw [h1, size_idxF (fun l : Txt => Lit.string l) (fun _ => trivial) P 0 _ tidy_empty hn (fun x _ y _ e => by injection e) (fun _ _ => rfl)]
  have e : Maps.size (DataW.map [] : DataW Unit) = 0 := rfl
  rw [e, Nat.zero_add]
set_option maxHeartbeats 4000000 in
set_option maxRecDepth 100000 in
theorem canon_any (a_s a_p : List UInt8) (a_n : Int) (a_v0 a_v1 a_v2 a_v3 : Bool) (a_l0 a_l1 a_l2 a_l3 : List UInt8) (w : World) (hF : FitsA ((a_s, a_p, a_n, (a_v0, a_l0), (a_v1, a_l1), (a_v2, a_l2), (a_v3, a_l3)) : Atm)) :
    Calls Tryz.prog 32 #[.agg #[.string ⟨a_s.toArray⟩, .string ⟨a_p.toArray⟩, .int .i64 a_n, .bool a_v0, .string ⟨a_l0.toArray⟩, .bool a_v1, .string ⟨a_l1.toArray⟩, .bool a_v2, .string ⟨a_l2.toArray⟩, .bool a_v3, .string ⟨a_l3.toArray⟩]] w fun e w' => e = .returned (.agg (atmC (canA ((a_s, a_p, a_n, (a_v0, a_l0), (a_v1, a_l1), (a_v2, a_l2), (a_v3, a_l3)) : Atm)))) ∧ Since w w' := by
  obtain ⟨n, hn4, hnc, hmn⟩ : ∃ n : Nat, n ≤ 4 ∧ Hid (n = countA ((a_s, a_p, a_n, (a_v0, a_l0), (a_v1, a_l1), (a_v2, a_l2), (a_v3, a_l3)) : Atm)) ∧ min (max a_n 0) 4 = (n : Int) := by
    refine ⟨countA ((a_s, a_p, a_n, (a_v0, a_l0), (a_v1, a_l1), (a_v2, a_l2), (a_v3, a_l3)) : Atm), countA_le _, rfl, ?_⟩
    unfold countA
    simp only
    omega
  have HF := Lib.hid hF
  obtain ⟨NS, hNS⟩ : ∃ NS, Hid (NS = namesA ((a_s, a_p, a_n, (a_v0, a_l0), (a_v1, a_l1), (a_v2, a_l2), (a_v3, a_l3)) : Atm) true) := ⟨_, rfl⟩
  have hS1 : Since w (((w.alloc (.cells #[.string ⟨a_s.toArray⟩, .string ⟨a_p.toArray⟩, .int .i64 a_n, .bool a_v0, .string ⟨a_l0.toArray⟩, .bool a_v1, .string ⟨a_l1.toArray⟩, .bool a_v2, .string ⟨a_l2.toArray⟩, .bool a_v3, .string ⟨a_l3.toArray⟩] 33)).alloc (.cells (atmC zeroAC) 33)).alloc (.map #[] 0)) := (((Since.refl _).alloc _).alloc _).alloc _
  have K1 : Hid (Cel (((w.alloc (.cells #[.string ⟨a_s.toArray⟩, .string ⟨a_p.toArray⟩, .int .i64 a_n, .bool a_v0, .string ⟨a_l0.toArray⟩, .bool a_v1, .string ⟨a_l1.toArray⟩, .bool a_v2, .string ⟨a_l2.toArray⟩, .bool a_v3, .string ⟨a_l3.toArray⟩] 33)).alloc (.cells (atmC zeroAC) 33)).alloc (.map #[] 0)) w.heap.size #[.string ⟨a_s.toArray⟩, .string ⟨a_p.toArray⟩, .int .i64 a_n, .bool a_v0, .string ⟨a_l0.toArray⟩, .bool a_v1, .string ⟨a_l1.toArray⟩, .bool a_v2, .string ⟨a_l2.toArray⟩, .bool a_v3, .string ⟨a_l3.toArray⟩] 33) := ((show Cel (w.alloc (.cells #[.string ⟨a_s.toArray⟩, .string ⟨a_p.toArray⟩, .int .i64 a_n, .bool a_v0, .string ⟨a_l0.toArray⟩, .bool a_v1, .string ⟨a_l1.toArray⟩, .bool a_v2, .string ⟨a_l2.toArray⟩, .bool a_v3, .string ⟨a_l3.toArray⟩] 33)) w.heap.size _ _ from heap_alloc_new w _).next ((Since.refl _).alloc _)).next ((Since.refl _).alloc _)
  have K2 : Hid (Cel (((w.alloc (.cells #[.string ⟨a_s.toArray⟩, .string ⟨a_p.toArray⟩, .int .i64 a_n, .bool a_v0, .string ⟨a_l0.toArray⟩, .bool a_v1, .string ⟨a_l1.toArray⟩, .bool a_v2, .string ⟨a_l2.toArray⟩, .bool a_v3, .string ⟨a_l3.toArray⟩] 33)).alloc (.cells (atmC zeroAC) 33)).alloc (.map #[] 0)) (w.heap.size + 1) (atmC zeroAC) 33) := by
    have h := heap_alloc_new (w.alloc (.cells #[.string ⟨a_s.toArray⟩, .string ⟨a_p.toArray⟩, .int .i64 a_n, .bool a_v0, .string ⟨a_l0.toArray⟩, .bool a_v1, .string ⟨a_l1.toArray⟩, .bool a_v2, .string ⟨a_l2.toArray⟩, .bool a_v3, .string ⟨a_l3.toArray⟩] 33)) (.cells (atmC zeroAC) 33)
    rw [World.size_alloc] at h
    exact Cel.next (show Cel _ (w.heap.size + 1) (atmC zeroAC) 33 from h) ((Since.refl _).alloc _)
  have K3 : Hid (TIdx (((w.alloc (.cells #[.string ⟨a_s.toArray⟩, .string ⟨a_p.toArray⟩, .int .i64 a_n, .bool a_v0, .string ⟨a_l0.toArray⟩, .bool a_v1, .string ⟨a_l1.toArray⟩, .bool a_v2, .string ⟨a_l2.toArray⟩, .bool a_v3, .string ⟨a_l3.toArray⟩] 33)).alloc (.cells (atmC zeroAC) 33)).alloc (.map #[] 0)) (w.heap.size + 2) 0 (nmK ((a_s, a_p, a_n, (a_v0, a_l0), (a_v1, a_l1), (a_v2, a_l2), (a_v3, a_l3)) : Atm) 0)) := by
    have h := kidx_made 9 (fun l : Txt => Lit.string l) ((w.alloc (.cells #[.string ⟨a_s.toArray⟩, .string ⟨a_p.toArray⟩, .int .i64 a_n, .bool a_v0, .string ⟨a_l0.toArray⟩, .bool a_v1, .string ⟨a_l1.toArray⟩, .bool a_v2, .string ⟨a_l2.toArray⟩, .bool a_v3, .string ⟨a_l3.toArray⟩] 33)).alloc (.cells (atmC zeroAC) 33))
    rw [World.size_alloc, World.size_alloc] at h
    exact h
  have hmm := @run_makeMap Tryz.prog
  have hK10 : Hid (Cel (((w.alloc (.cells #[.string ⟨a_s.toArray⟩, .string ⟨a_p.toArray⟩, .int .i64 a_n, .bool a_v0, .string ⟨a_l0.toArray⟩, .bool a_v1, .string ⟨a_l1.toArray⟩, .bool a_v2, .string ⟨a_l2.toArray⟩, .bool a_v3, .string ⟨a_l3.toArray⟩] 33)).alloc (.cells (atmC zeroAC) 33)).alloc (.map #[] 0)) w.heap.size (atmC (partC NS 0 ((a_s, a_p, a_n, (a_v0, a_l0), (a_v1, a_l1), (a_v2, a_l2), (a_v3, a_l3)) : Atm))) 33) := K1
  clear hF K1
  go_enter Tryz.func32, Tryz.ntmps32
  go_wp2_with fail
  clear hmm
  go_loopw [4, 5, 6, 12] (fun _ _ _ i wr => ∃ k : Nat, k ≤ n ∧ i = .int .i64 (k : Int) ∧ Since w wr ∧ Hid (Cel wr w.heap.size (atmC (partC NS k ((a_s, a_p, a_n, (a_v0, a_l0), (a_v1, a_l1), (a_v2, a_l2), (a_v3, a_l3)) : Atm))) 33) ∧ Hid (Cel wr (w.heap.size + 1) (atmC zeroAC) 33) ∧ Hid (TIdx wr (w.heap.size + 2) k (nmK ((a_s, a_p, a_n, (a_v0, a_l0), (a_v1, a_l1), (a_v2, a_l2), (a_v3, a_l3)) : Atm) k))) (fun _ _ _ i _ => n - (intOf i).toNat)
  case atStart => exact ⟨0, by omega, rfl, hS1, hK10.out, K2.out, K3.out⟩
  case round =>
    clear hK10 K2 K3 hS1
    obtain ⟨k, hk, rfl, hS, K1, K2, K3⟩ := hrel
    by_cases hlt : k < n
    · have hlt2 : (k : Int) < (n : Int) := by omega
      have hk4 : k < 4 := by omega
      have hk4i : (k : Int) < 4 := by omega
      have ha4 : k < (argsL (partC NS k ((a_s, a_p, a_n, (a_v0, a_l0), (a_v1, a_l1), (a_v2, a_l2), (a_v3, a_l3)) : Atm))).length := by rw [argsL_len]; exact hk4
      have hb4 : k < (argsL ((a_s, a_p, a_n, (a_v0, a_l0), (a_v1, a_l1), (a_v2, a_l2), (a_v3, a_l3)) : Atm)).length := by rw [argsL_len]; exact hk4
      have hcc : k < countA ((a_s, a_p, a_n, (a_v0, a_l0), (a_v1, a_l1), (a_v2, a_l2), (a_v3, a_l3)) : Atm) := by rw [← hnc.out]; exact hlt
      obtain ⟨d0, d1⟩ := (cel_boxA K1.out).args.2 k ha4
      have hst := partC_set NS ((a_s, a_p, a_n, (a_v0, a_l0), (a_v1, a_l1), (a_v2, a_l2), (a_v3, a_l3)) : Atm) k hk4 ha4
      have hsk := partC_skip NS ((a_s, a_p, a_n, (a_v0, a_l0), (a_v1, a_l1), (a_v2, a_l2), (a_v3, a_l3)) : Atm) k hk4 ha4
      have hpa := partC_at NS ((a_s, a_p, a_n, (a_v0, a_l0), (a_v1, a_l1), (a_v2, a_l2), (a_v3, a_l3)) : Atm) k ha4 hb4
      rw [hpa] at d0 d1 hst hsk
      have hfl := HF.out.2.2 _ (List.getElem_mem hb4)
      have hcn := can_new (a := ((a_s, a_p, a_n, (a_v0, a_l0), (a_v1, a_l1), (a_v2, a_l2), (a_v3, a_l3)) : Atm)) hcc hb4
      have hcs := fun j => can_same (a := ((a_s, a_p, a_n, (a_v0, a_l0), (a_v1, a_l1), (a_v2, a_l2), (a_v3, a_l3)) : Atm)) (j := j) hb4
      have hco := fun j => can_old (a := ((a_s, a_p, a_n, (a_v0, a_l0), (a_v1, a_l1), (a_v2, a_l2), (a_v3, a_l3)) : Atm)) (k := k) (j := j) (s := ((argsL ((a_s, a_p, a_n, (a_v0, a_l0), (a_v1, a_l1), (a_v2, a_l2), (a_v3, a_l3)) : Atm))[k]'hb4).2) (Nat.le_of_lt hcc)
      have hck := can_const (a := ((a_s, a_p, a_n, (a_v0, a_l0), (a_v1, a_l1), (a_v2, a_l2), (a_v3, a_l3)) : Atm)) hb4
      rw [← hNS.out] at hcn hco
      generalize (argsL ((a_s, a_p, a_n, (a_v0, a_l0), (a_v1, a_l1), (a_v2, a_l2), (a_v3, a_l3)) : Atm))[k]'hb4 = t at *
      obtain ⟨tv, tl⟩ := t
      simp only at d0 d1 hst hsk hfl hcn hcs hco hck
      clear hpa
      cases tv
      · have hsk2 := Lib.hid (hsk rfl)
        have hck2 := Lib.hid (hck rfl)
        clear hst hsk hcn hcs hco hck
        go_wp2_with fail
        go_roundw
        case rel => exact ⟨k + 1, by omega, by go_num, hS, by rw [hsk2.out]; exact K1.out, K2.out, by rw [hck2.out]; exact K3.out.mono (by omega)⟩
        case measure => simp [intOf]; omega
      · have HST := Lib.hid (hst rfl)
        clear hst hsk hck
        have hlk := kidx_look K3.out klaw Tryz.underlying85 (fun _ => trivial) tl (nmK_nodup _ _) tinj (tkey tl hfl)
        have hfz := fun (W : World) (h : Cel W w.heap.size (atmC (partC NS k ((a_s, a_p, a_n, (a_v0, a_l0), (a_v1, a_l1), (a_v2, a_l2), (a_v3, a_l3)) : Atm))) 33) => h.free (3 + k * 2 + 1)
        cases hp : posF (nmK ((a_s, a_p, a_n, (a_v0, a_l0), (a_v1, a_l1), (a_v2, a_l2), (a_v3, a_l3)) : Atm) k) tl 0 with
        | some j =>
          have hidx := hco j hp
          have hnm := hcs j hp
          rw [hp] at hlk
          simp only [posV, Option.isSome_some] at hlk
          rw [hidx] at HST
          have hj4 : j < 4 := by
            have := (posF_lt hp).2.1
            have h2 := nmK_len ((a_s, a_p, a_n, (a_v0, a_l0), (a_v1, a_l1), (a_v2, a_l2), (a_v3, a_l3)) : Atm) k
            omega
          simp only [Option.getD_some] at HST
          have HNM := Lib.hid hnm
          have HFZ := Lib.hid hfz
          clear hcn hcs hco hidx hnm hp hfz
          have c1 : (ByteArray.mk #[86]) ++ (ByteArray.mk (Lib.decDigits j).toArray) = ByteArray.mk (vN j).toArray := by
            apply ByteArray.ext
            simp [vN]
          have ha1 := fun W => run_catC c1 (by show 1 + (Lib.decDigits j).length ≤ 1000000; have := digits4 hj4; omega) W
          clear c1
          go_wp2_with fail
          refine (itoaS j (by omega) _).mono ?_
          rintro e w8 ⟨rfl, hb8⟩
          have hS8 := hS.trans hb8
          have d8 := hb8.cell d1
          have K8 := K1.out.next hb8
          have f8 := HFZ.out w8 K8
          clear d0 d1 hlk
          go_wp2_with fail
          go_roundw
          case rel => exact ⟨k + 1, by omega, by go_num, hS8.setCell (Nat.le_refl _) _, K8.set HST.out, (K2.out.next hb8).far (by simp) _, by rw [HNM.out]; exact (kidx_cell (K3.out.next hb8) (by omega) _).mono (by omega)⟩
          case measure => simp [intOf]; omega
        | none =>
          obtain ⟨hnm, hidx⟩ := hcn rfl hp
          rw [hp] at hlk
          simp only [posV, Option.isSome_none] at hlk
          rw [hidx] at HST
          simp only [Option.getD_some] at HST
          have hlen := fun ty => tlen K3.out (nmK_nodup _ _) ty
          obtain ⟨w2, hput, hT2, hg2⟩ := kidx_put K3.out klaw Tryz.underlying85 tl (by unfold maxLen; omega) (by have := nmK_len ((a_s, a_p, a_n, (a_v0, a_l0), (a_v1, a_l1), (a_v2, a_l2), (a_v3, a_l3)) : Atm) k; omega) (tkey tl hfl)
          have hN4 := nmK_len ((a_s, a_p, a_n, (a_v0, a_l0), (a_v1, a_l1), (a_v2, a_l2), (a_v3, a_l3)) : Atm) k
          rw [← hnm] at hT2
          obtain ⟨j, hj⟩ : ∃ j, Hid (j = (nmK ((a_s, a_p, a_n, (a_v0, a_l0), (a_v1, a_l1), (a_v2, a_l2), (a_v3, a_l3)) : Atm) k).length) := ⟨_, rfl⟩
          rw [← hj.out] at hlen hput HST hN4
          have hj4 : j < 4 := by omega
          have HFZ := Lib.hid hfz
          have hne1 : some w.heap.size ≠ some (w.heap.size + 2) := by simp
          have K1b := K1.out.grown hg2 hne1
          have K2b := K2.out.grown hg2 (by simp : some (w.heap.size + 1) ≠ some (w.heap.size + 2))
          have hS2 : Since w w2 := Below.grown hS hg2 hS.size (fun b hb => by cases hb; omega)
          have d12 : w2.cell? ⟨w.heap.size, 3 + k * 2 + 1, none⟩ = some (.string ⟨tl.toArray⟩) := by
            rw [K1b.cell, ← K1.out.cell]; exact d1
          clear hcn hcs hco hidx hnm hp hfz hg2 hne1
          have c1 : (ByteArray.mk #[86]) ++ (ByteArray.mk (Lib.decDigits j).toArray) = ByteArray.mk (vN j).toArray := by
            apply ByteArray.ext
            simp [vN]
          have ha1 := fun W => run_catC c1 (by show 1 + (Lib.decDigits j).length ≤ 1000000; have := digits4 hj4; omega) W
          clear c1
          go_wp2_with fail
          refine (itoaS j (by omega) _).mono ?_
          rintro e w8 ⟨rfl, hb8⟩
          have hS8 := hS2.trans hb8
          have d8 := hb8.cell d12
          have K8 := K1b.next hb8
          have f8 := HFZ.out w8 K8
          clear d0 d1 hlk hlen hput d12
          go_wp2_with fail
          go_roundw
          case rel => exact ⟨k + 1, by omega, by go_num, hS8.setCell (Nat.le_refl _) _, K8.set HST.out, (K2b.next hb8).far (by simp) _, kidx_cell (hT2.next hb8) (by omega) _⟩
          case measure => simp [intOf]; omega
    · have hlt2 : ¬ (k : Int) < (n : Int) := by omega
      have hfin : Hid (partC NS k ((a_s, a_p, a_n, (a_v0, a_l0), (a_v1, a_l1), (a_v2, a_l2), (a_v3, a_l3)) : Atm) = canA ((a_s, a_p, a_n, (a_v0, a_l0), (a_v1, a_l1), (a_v2, a_l2), (a_v3, a_l3)) : Atm)) := by
        show _ = _
        rw [hNS.out, show k = countA ((a_s, a_p, a_n, (a_v0, a_l0), (a_v1, a_l1), (a_v2, a_l2), (a_v3, a_l3)) : Atm) by rw [← hnc.out]; omega]; rfl
      generalize partC NS k ((a_s, a_p, a_n, (a_v0, a_l0), (a_v1, a_l1), (a_v2, a_l2), (a_v3, a_l3)) : Atm) = x at *
      obtain ⟨x_s, x_p, x_n, ⟨x_v0, x_l0⟩, ⟨x_v1, x_l1⟩, ⟨x_v2, x_l2⟩, ⟨x_v3, x_l3⟩⟩ := x
      obtain ⟨x0, x1, x2, x3, x4, x5, x6, x7, x8, x9, x10⟩ := (cel_boxA K1.out).all
      have hone : Hid (((#[.string ⟨x_s.toArray⟩, .string ⟨x_p.toArray⟩, .int .i64 x_n, .bool x_v0, .string ⟨x_l0.toArray⟩, .bool x_v1, .string ⟨x_l1.toArray⟩, .bool x_v2, .string ⟨x_l2.toArray⟩, .bool x_v3, .string ⟨x_l3.toArray⟩] : Array Value).all (·.oneCell')) = true) := by show _ = _; simp [Value.oneCell']
      go_wp2_with (refine wpList_store_row rfl 33 (.tmp 2) (.tmp 50) rfl (w.heap.size + 1) #[.string ⟨x_s.toArray⟩, .string ⟨x_p.toArray⟩, .int .i64 x_n, .bool x_v0, .string ⟨x_l0.toArray⟩, .bool x_v1, .string ⟨x_l1.toArray⟩, .bool x_v2, .string ⟨x_l2.toArray⟩, .bool x_v3, .string ⟨x_l3.toArray⟩] rfl rfl 33 (atmC zeroAC) K2.out ainfoC rfl hone.out ?_)
      have hbx : Box (wr.setRow (w.heap.size + 1) #[.string ⟨x_s.toArray⟩, .string ⟨x_p.toArray⟩, .int .i64 x_n, .bool x_v0, .string ⟨x_l0.toArray⟩, .bool x_v1, .string ⟨x_l1.toArray⟩, .bool x_v2, .string ⟨x_l2.toArray⟩, .bool x_v3, .string ⟨x_l3.toArray⟩]) (w.heap.size + 1) ((x_s, x_p, x_n, (x_v0, x_l0), (x_v1, x_l1), (x_v2, x_l2), (x_v3, x_l3)) : Atm) := cel_boxA (T := 33) (K2.out.row (atmC ((x_s, x_p, x_n, (x_v0, x_l0), (x_v1, x_l1), (x_v2, x_l2), (x_v3, x_l3)) : Atm)))
      obtain ⟨e0, e1, e2, e3, e4, e5, e6, e7, e8, e9, e10⟩ := hbx.all
      refine bodyPost_ret (v := .agg #[.string ⟨x_s.toArray⟩, .string ⟨x_p.toArray⟩, .int .i64 x_n, .bool x_v0, .string ⟨x_l0.toArray⟩, .bool x_v1, .string ⟨x_l1.toArray⟩, .bool x_v2, .string ⟨x_l2.toArray⟩, .bool x_v3, .string ⟨x_l3.toArray⟩]) (by simp [results, Tryz.results32, go_sem, e0, e1, e2, e3, e4, e5, e6, e7, e8, e9, e10]) rfl ?_
      exact ⟨by rw [← hfin.out]; rfl, since_setRow hS (Nat.le_succ _) _⟩
end Go.Proofs.YtbgdljcgbhhfdaaGreatDoor
