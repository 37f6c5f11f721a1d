/- cert.may: may a step be written at its place?. A slice of bytes that began as '[]byte(s)': its row bears a mark behind its last cell; strings appended to it. -/
import Derived.Test.YtiadjmfdahendaaDoorCertA
import Derived.Test.YtiadjmfdahendaaDoorCertNumW
import Derived.Lib.AppendStr
import Derived.Lib.FrozenHead
import Derived.Laws.IdiomStrings
import Derived.RegionTactic
import Derived.Deep.RegionHeld3
namespace Go.Proofs.YtiadjmfdahendaaDoor
open Go.RowKit

def intV (c : Int) : Value := .int .i64 c
/-- A slice that reads as a list of ints. -/
def CiteRow (W : World) (v : Value) (l : List Int) : Prop :=
  ∃ a c, v = .slice a l.length c ∧ (0 < l.length → ∃ b o, a = some ⟨b, o, none⟩ ∧ l.length ≤ c ∧ ∀ j, (h : j < (l.map intV).length) → W.cell? ⟨b, o + j, none⟩ = some (l.map intV)[j])
theorem CiteRow.next {W W' : World} {v : Value} {l : List Int} (h : CiteRow W v l) (hs : Since W W') : CiteRow W' v l := by
  obtain ⟨a, c, h1, h2⟩ := h
  refine ⟨a, c, h1, fun h0 => ?_⟩
  obtain ⟨b, o, h3, h4, h5⟩ := h2 h0
  exact ⟨b, o, h3, h4, fun j hj => hs.cell (h5 j hj)⟩
theorem CiteRow.len {W : World} {v : Value} {l : List Int} (h : CiteRow W v l) : ∃ a c, v = .slice a l.length c := by
  obtain ⟨a, c, h1, _⟩ := h
  exact ⟨a, c, h1⟩
theorem CiteRow.some {W : World} {v : Value} {l : List Int} (h : CiteRow W v l) (hn : 0 < l.length) : ∃ b o c, v = .slice (some ⟨b, o, none⟩) l.length c ∧ l.length ≤ c ∧ ∀ j, (h : j < (l.map intV).length) → W.cell? ⟨b, o + j, none⟩ = some (l.map intV)[j] := by
  obtain ⟨a, c, h1, h2⟩ := h
  obtain ⟨b, o, h3, h4, h5⟩ := h2 hn
  subst h3
  exact ⟨b, o, c, h1, h4, h5⟩
set_option maxHeartbeats 1000000 in
set_option maxRecDepth 100000 in
theorem may_any (a_s a_p : List UInt8) (a_n : Int) (a_v0 a_v1 a_v2 a_v3 : Bool) (a_l0 a_l1 a_l2 a_l3 : List UInt8) (cl : Int) (sv : Value) (l : List Int) (i : Nat) (w : World) (hF : FitsA ((a_s, a_p, a_n, (a_v0, a_l0), (a_v1, a_l1), (a_v2, a_l2), (a_v3, a_l3)) : Atm)) (hE : Env w) (hr : CiteRow w sv l) (hl : l.length ≤ 1000000) :
    Calls Tryd.prog 27 #[.int .i64 i, .agg #[.string ⟨a_s.toArray⟩, .string ⟨a_p.toArray⟩, .int .i64 a_n, .bool a_v0, .string ⟨a_l0.toArray⟩, .bool a_v1, .string ⟨a_l1.toArray⟩, .bool a_v2, .string ⟨a_l2.toArray⟩, .bool a_v3, .string ⟨a_l3.toArray⟩, .int .i64 cl, sv]] w fun e w' => e = .returned (.bool (mayB i (((a_s, a_p, a_n, (a_v0, a_l0), (a_v1, a_l1), (a_v2, a_l2), (a_v3, a_l3)) : Atm), cl, l))) ∧ Since w w' := by
  obtain ⟨sa, sc, rfl⟩ := hr.len
  have HC := Lib.hid (fun W hE => check_any a_s a_p a_n a_v0 a_v1 a_v2 a_v3 a_l0 a_l1 a_l2 a_l3 W hF hE)
  have HG := Lib.hid (fun W hE => ground_any a_s a_p a_n a_v0 a_v1 a_v2 a_v3 a_l0 a_l1 a_l2 a_l3 W hF hE)
  have hS : Since w (w.alloc (.cells #[.string ⟨a_s.toArray⟩, .string ⟨a_p.toArray⟩, .int .i64 a_n, .bool a_v0, .string ⟨a_l0.toArray⟩, .bool a_v1, .string ⟨a_l1.toArray⟩, .bool a_v2, .string ⟨a_l2.toArray⟩, .bool a_v3, .string ⟨a_l3.toArray⟩, .int .i64 cl, .slice sa l.length sc] 39)) := (Since.refl _).alloc _
  have hE1 := hE.next hS
  have a_B : Box (w.alloc (.cells #[.string ⟨a_s.toArray⟩, .string ⟨a_p.toArray⟩, .int .i64 a_n, .bool a_v0, .string ⟨a_l0.toArray⟩, .bool a_v1, .string ⟨a_l1.toArray⟩, .bool a_v2, .string ⟨a_l2.toArray⟩, .bool a_v3, .string ⟨a_l3.toArray⟩, .int .i64 cl, .slice sa l.length sc] 39)) w.heap.size ((a_s, a_p, a_n, (a_v0, a_l0), (a_v1, a_l1), (a_v2, a_l2), (a_v3, a_l3)) : Atm) := by
    intro j hj
    rw [World.cell?_alloc_new]
    match j, hj with
    | 0, _ => rfl
    | 1, _ => rfl
    | 2, _ => rfl
    | 3, _ => rfl
    | 4, _ => rfl
    | 5, _ => rfl
    | 6, _ => rfl
    | 7, _ => rfl
    | 8, _ => rfl
    | 9, _ => rfl
    | 10, _ => rfl
  have k1 : (w.alloc (.cells #[.string ⟨a_s.toArray⟩, .string ⟨a_p.toArray⟩, .int .i64 a_n, .bool a_v0, .string ⟨a_l0.toArray⟩, .bool a_v1, .string ⟨a_l1.toArray⟩, .bool a_v2, .string ⟨a_l2.toArray⟩, .bool a_v3, .string ⟨a_l3.toArray⟩, .int .i64 cl, .slice sa l.length sc] 39)).cell? ⟨w.heap.size, 11, none⟩ = some (.int .i64 cl) := by rw [World.cell?_alloc_new]; rfl
  have k2 : (w.alloc (.cells #[.string ⟨a_s.toArray⟩, .string ⟨a_p.toArray⟩, .int .i64 a_n, .bool a_v0, .string ⟨a_l0.toArray⟩, .bool a_v1, .string ⟨a_l1.toArray⟩, .bool a_v2, .string ⟨a_l2.toArray⟩, .bool a_v3, .string ⟨a_l3.toArray⟩, .int .i64 cl, .slice sa l.length sc] 39)).cell? ⟨w.heap.size, 12, none⟩ = some (.slice sa l.length sc) := by rw [World.cell?_alloc_new]; rfl
  obtain ⟨a_c0, a_c1, a_c2, a_c3, a_c4, a_c5, a_c6, a_c7, a_c8, a_c9, a_c10⟩ := a_B.all
  have hMr : Hid (mayB i (((a_s, a_p, a_n, (a_v0, a_l0), (a_v1, a_l1), (a_v2, a_l2), (a_v3, a_l3)) : Atm), cl, l) = (!(checkA ((a_s, a_p, a_n, (a_v0, a_l0), (a_v1, a_l1), (a_v2, a_l2), (a_v3, a_l3)) : Atm) != 0) && (groundA ((a_s, a_p, a_n, (a_v0, a_l0), (a_v1, a_l1), (a_v2, a_l2), (a_v3, a_l3)) : Atm) && (!decide (cl < -1) && (!decide (65536 < cl) && (!decide ((16 : Int) < (l.length : Int)) && l.all (citeB i))))))) := by
    show _ = _
    rw [mayB]
    have e1 : (checkA ((a_s, a_p, a_n, (a_v0, a_l0), (a_v1, a_l1), (a_v2, a_l2), (a_v3, a_l3)) : Atm) == 0) = !(checkA ((a_s, a_p, a_n, (a_v0, a_l0), (a_v1, a_l1), (a_v2, a_l2), (a_v3, a_l3)) : Atm) != 0) := by simp [bne]
    have e2 : decide (-1 ≤ cl) = !decide (cl < -1) := by rw [Bool.eq_iff_iff]; simp
    have e3 : decide (cl ≤ 65536) = !decide (65536 < cl) := by rw [Bool.eq_iff_iff]; simp
    have e4 : decide (l.length ≤ 16) = !decide ((16 : Int) < (l.length : Int)) := by rw [Bool.eq_iff_iff]; simp; omega
    rw [e1, e2, e3, e4]
  obtain ⟨R, hR⟩ : ∃ R, Hid (R = mayB i (((a_s, a_p, a_n, (a_v0, a_l0), (a_v1, a_l1), (a_v2, a_l2), (a_v3, a_l3)) : Atm), cl, l)) := ⟨_, rfl⟩
  have hRr : Hid (R = (!(checkA ((a_s, a_p, a_n, (a_v0, a_l0), (a_v1, a_l1), (a_v2, a_l2), (a_v3, a_l3)) : Atm) != 0) && (groundA ((a_s, a_p, a_n, (a_v0, a_l0), (a_v1, a_l1), (a_v2, a_l2), (a_v3, a_l3)) : Atm) && (!decide (cl < -1) && (!decide (65536 < cl) && (!decide ((16 : Int) < (l.length : Int)) && l.all (citeB i))))))) := by show _ = _; rw [hR.out]; exact hMr.out
  rw [← hR.out]
  clear hR hMr hF hE a_B
  have HR := Lib.hid hr
  clear hr
  generalize checkA ((a_s, a_p, a_n, (a_v0, a_l0), (a_v1, a_l1), (a_v2, a_l2), (a_v3, a_l3)) : Atm) = kk at *
  cases h1 : (kk != 0) <;> cases h2 : groundA ((a_s, a_p, a_n, (a_v0, a_l0), (a_v1, a_l1), (a_v2, a_l2), (a_v3, a_l3)) : Atm) <;> cases h3 : decide (cl < -1) <;> cases h4 : decide (65536 < cl) <;> cases h5 : decide ((16 : Int) < (l.length : Int))
  case false.true.false.false.false =>
    have hRa : Hid (R = (l.drop 0).all (citeB i)) := by show _ = _; rw [hRr.out, h1, h2, h3, h4, h5]; rfl
    have h6 : l.length ≤ 16 := by simp at h5; omega
    rw [h2] at HG
    clear hRr
    go_enter Tryd.func27, Tryd.ntmps27
    go_wp2_with (first
      | (go_at_call 29; refine (HC.out _ hE1).mono ?_; rintro e w1 ⟨rfl, hb⟩; replace hE1 := hE1.next hb; replace hS := hS.trans hb; replace k1 := hb.cell k1; replace k2 := hb.cell k2; replace a_c0 := hb.cell a_c0; replace a_c1 := hb.cell a_c1; replace a_c2 := hb.cell a_c2; replace a_c3 := hb.cell a_c3; replace a_c4 := hb.cell a_c4; replace a_c5 := hb.cell a_c5; replace a_c6 := hb.cell a_c6; replace a_c7 := hb.cell a_c7; replace a_c8 := hb.cell a_c8; replace a_c9 := hb.cell a_c9; replace a_c10 := hb.cell a_c10)
      | (go_at_call 41; refine (HG.out _ hE1).mono ?_; rintro e w1 ⟨rfl, hb⟩; replace hE1 := hE1.next hb; replace hS := hS.trans hb; replace k1 := hb.cell k1; replace k2 := hb.cell k2; clear a_c0 a_c1 a_c2 a_c3 a_c4 a_c5 a_c6 a_c7 a_c8 a_c9 a_c10))
    clear h1 h2 h3 h4 h5
    go_loop [36] (fun o => ∃ k : Nat, k ≤ l.length ∧ o = .int .i64 k ∧ Hid (R = (l.drop k).all (citeB i))) (fun o => l.length - (intOf o).toNat)
    case atStart => exact ⟨0, Nat.zero_le _, rfl, hRa⟩
    case round =>
      clear hRa
      obtain ⟨k, hk, rfl, hres⟩ := hrel
      by_cases hlt : k < l.length
      · obtain ⟨b, o, c', he, _, hcells⟩ := (HR.out.next hS).some (by omega)
        cases he
        have d := hcells k (by simpa using hlt)
        simp only [List.getElem_map, intV] at d
        have hst : R = (citeB i l[k] && (l.drop (k + 1)).all (citeB i)) := by rw [hres.out, List.drop_eq_getElem_cons hlt, List.all_cons]
        have HST := Lib.hid hst
        clear hcells hst hres
        generalize l[k] = c at *
        have hcb : Hid (citeB i c = (!decide (c < 0) && !decide ((i : Int) ≤ c))) := by
          show _ = _
          rw [citeB, Bool.eq_iff_iff]; simp
        cases g1 : decide (c < 0) <;> cases g2 : decide ((i : Int) ≤ c)
        case false.false =>
          have HN : Hid (R = (l.drop (k + 1)).all (citeB i)) := by show _ = _; rw [HST.out, hcb.out, g1, g2]; rfl
          go_wp2_with fail
          go_round
          case rel => exact ⟨k + 1, by omega, by go_num, HN⟩
          case measure => simp [intOf]; omega
        all_goals
          have HN : Hid (R = false) := by show _ = _; rw [HST.out, hcb.out, g1, g2]; simp
          go_wp2_with fail
          go_ret
          exact ⟨ret_bool HN.out.symm, hS⟩
      · go_wp2_with fail
        go_ret
        refine ⟨ret_bool ?_, hS⟩
        rw [hres.out, List.drop_eq_nil_of_le (by omega)]; rfl
  all_goals
    have hRf : Hid (R = false) := by show _ = _; rw [hRr.out, h1, h2, h3, h4, h5]; simp
    rw [h2] at HG
    clear hRr HR
    go_enter Tryd.func27, Tryd.ntmps27
    go_wp2_with (first
      | (go_at_call 29; refine (HC.out _ hE1).mono ?_; rintro e w1 ⟨rfl, hb⟩; replace hE1 := hE1.next hb; replace hS := hS.trans hb; replace k1 := hb.cell k1; replace k2 := hb.cell k2; replace a_c0 := hb.cell a_c0; replace a_c1 := hb.cell a_c1; replace a_c2 := hb.cell a_c2; replace a_c3 := hb.cell a_c3; replace a_c4 := hb.cell a_c4; replace a_c5 := hb.cell a_c5; replace a_c6 := hb.cell a_c6; replace a_c7 := hb.cell a_c7; replace a_c8 := hb.cell a_c8; replace a_c9 := hb.cell a_c9; replace a_c10 := hb.cell a_c10)
      | (go_at_call 41; refine (HG.out _ hE1).mono ?_; rintro e w1 ⟨rfl, hb⟩; replace hE1 := hE1.next hb; replace hS := hS.trans hb; replace k1 := hb.cell k1; replace k2 := hb.cell k2; clear a_c0 a_c1 a_c2 a_c3 a_c4 a_c5 a_c6 a_c7 a_c8 a_c9 a_c10))
    go_ret
    exact ⟨ret_bool hRf.out.symm, hS⟩
end Go.Proofs.YtiadjmfdahendaaDoor

namespace Go.Proofs.YtiadjmfdahendaaDoor
open Go.RowKit Go.Lib

/-- The slice v holds the bytes l in a row of the call's own, whose frozen places, if any, lie behind its cells. -/
def OwnsBytes (w : World) (base : Nat) (e : TypeId) (v : Value) (l : List UInt8) : Prop :=
  ∃ g cap cur fz, v = .slice (some ⟨g, 0, none⟩) l.length cap ∧ base ≤ g ∧ w.heap[g]? = some (.cells cur e fz) ∧ (cap ≤ fz.1 ∨ fz.2 = 0) ∧ l.length ≤ cap ∧ cap ≤ maxLen ∧ cur.size = cap ∧ cur.toList.take l.length = l.map u8V
theorem OwnsBytes.keep {w w' : World} {base : Nat} {e : TypeId} {v : Value} {l : List UInt8} (h : OwnsBytes w base e v l) (hs : ∀ g, base ≤ g → g < w.heap.size → w'.heap[g]? = w.heap[g]?) : OwnsBytes w' base e v l := by
  obtain ⟨g, cap, cur, fz, h1, h2, h3, h4⟩ := h
  exact ⟨g, cap, cur, fz, h1, h2, (hs g h2 (Array.getElem?_eq_some_iff.1 h3).1).trans h3, h4⟩
theorem OwnsBytes.next {w w' : World} {base : Nat} {e : TypeId} {v : Value} {l : List UInt8} (h : OwnsBytes w base e v l) (hs : Since w w') : OwnsBytes w' base e v l :=
  h.keep fun g _ hg => Below.block hs g hg
theorem OwnsBytes.down {w : World} {base B : Nat} {e : TypeId} {v : Value} {l : List UInt8} (h : OwnsBytes w base e v l) (hB : B ≤ base) : OwnsBytes w B e v l := by
  obtain ⟨g, cap, cur, fz, h1, h2, h3⟩ := h
  exact ⟨g, cap, cur, fz, h1, Nat.le_trans hB h2, h3⟩
theorem OwnsBytes.ne {w : World} {base : Nat} {e : TypeId} {v : Value} {l : List UInt8} (h : OwnsBytes w base e v l) {k : Nat} (hk : w.heap.size ≤ k) : v.ownBlock ≠ some k := by
  obtain ⟨g, cap, cur, fz, rfl, h2, h3, _⟩ := h
  have := (Array.getElem?_eq_some_iff.1 h3).1
  simp [Value.ownBlock]
  omega
theorem OwnsBytes.own {w : World} {base : Nat} {e : TypeId} {v : Value} {l : List UInt8} (h : OwnsBytes w base e v l) : ∀ k, v.ownBlock = some k → base ≤ k := by
  obtain ⟨g, cap, cur, fz, rfl, h2, _⟩ := h
  intro k hk
  simp [Value.ownBlock] at hk
  omega
theorem OwnsBytes.row {w : World} {base : Nat} {e : TypeId} {v : Value} {l : List UInt8} (h : OwnsBytes w base e v l) : Row w v l.length (l.map u8V) := by
  obtain ⟨g, cap, cur, fz, rfl, h2, hg, _, hn, _, hs, ht⟩ := h
  refine .inr ⟨g, 0, cap, rfl, hn, fun j hj => ?_⟩
  have hj2 : j < cur.size := by rw [List.length_map] at hj; omega
  have : (cur.toList.take l.length)[j]? = (l.map u8V)[j]? := by rw [ht]
  rw [List.getElem?_take, if_pos (by simpa using hj), Array.getElem?_toList, List.getElem?_eq_getElem hj] at this
  rw [Nat.zero_add]
  simpa [World.cell?, hg] using this

theorem strCells_eq (x : List UInt8) : strCells ⟨x.toArray⟩ = x.map u8V := by
  unfold strCells
  simp [u8V]
/-- Cells stored into a row whose frozen places lie behind. -/
theorem run_storeG (P : Program) (g o : Nat) (t : TypeId) (fz : Nat × Nat) : ∀ (vs : List Value) (i : Nat) (cur : Array Value) (w : World), w.heap[g]? = some (.cells cur t fz) → (o + i + vs.length ≤ fz.1 ∨ fz.2 = 0) → o + i + vs.length ≤ cur.size → (∀ v ∈ vs, v.oneCell' = true) →
    (storeCells ⟨g, o, none⟩ vs i).run P w = .ok () (w.setRow g (cur.toList.take (o + i) ++ vs ++ cur.toList.drop (o + i + vs.length)).toArray)
  | [], i, cur, w, hg, _, _, _ => by
    rw [List.append_nil, List.length_nil, Nat.add_zero, List.take_append_drop, Array.toArray_toList, setRow_self w g cur t fz hg]; rfl
  | v :: r, i, cur, w, hg, hz, hl, h1 => by
    rw [List.length_cons] at hz hl
    have hi : o + i < cur.size := by omega
    have ha : (⟨g, o, none⟩ : Addr).add i = ⟨g, o + i, none⟩ := by unfold Addr.add; split <;> simp_all
    have hc : w.cell? ⟨g, o + i, none⟩ = some cur[o + i] := by simp [World.cell?, hg, hi]
    have hf : w.frozen? ⟨g, o + i, none⟩ = false := by
      obtain ⟨lo, up⟩ := fz
      simp only [World.frozen?, hg, Bool.and_eq_false_iff, decide_eq_false_iff_not]
      simp only at hz
      omega
    have hst : (store ((⟨g, o, none⟩ : Addr).add i) v).run P w = .ok () (w.setRow g (cur.setIfInBounds (o + i) v)) := by
      rw [ha, run_store P w _ v _ (h1 v (by simp)), hc]
      simp [hf, setCell_eq_setRow w g (o + i) cur t fz v hg]
    have ih := run_storeG P g o t fz r (i + 1) (cur.setIfInBounds (o + i) v) (w.setRow g (cur.setIfInBounds (o + i) v)) (setRow_heap w g cur _ t _ hg) (by omega) (by simp; omega) (fun x hx => h1 x (by simp [hx]))
    simp only [storeCells, Sem.run_bind, hst, Result.andThen_ok, ih, setRow_setRow]
    congr 3
    have e := list_seg_step cur.toList (o + i) v r (by simp; omega)
    simpa [Array.toList_setIfInBounds, Nat.add_assoc] using e

section
variable {P : Program} (w : World)
theorem run_append_bytes (base : Nat) (t u ty e : TypeId) (i : TypeInfo) (ht : P.underlying t = some (.slice e)) (hu : P.underlying u = some .string) (hi : P.info? e = some i) (hz : i.zero = some (.int .u8 0)) (hsize : i.size = 1) (hby : i.bytes = 1)
    (v : Value) (l x : List UInt8) (hown : OwnsBytes w base e v l) (hl : l.length + x.length ≤ 1000000) (hbase : base ≤ w.heap.size) :
    ∃ v' w', (Builtin.append_ #[t, u] ty #[v, .string ⟨x.toArray⟩]).run P w = .ok v' w' ∧ OwnsBytes w' base e v' (l ++ x) ∧ OwnsBytes w' base e v l ∧ w.grownBy w' v.ownBlock := by
  obtain ⟨g, cap, cur, fz, rfl, hbg, hg, hfz, hnc, hcm, hcs, htake⟩ := hown
  have hxs : (ByteArray.mk x.toArray).size = x.length := by simp [ByteArray.size]
  have hsc : (strCells ⟨x.toArray⟩).length = x.length := by rw [strCells_length, hxs]
  by_cases hroom : l.length + x.length ≤ cap
  · have hf := run_firstCells_string (P := P) w 1 ⟨x.toArray⟩
    have hst := run_storeG P g l.length e fz (strCells ⟨x.toArray⟩) 0 cur w hg (by rw [hsc]; omega) (by rw [hsc]; omega) (strCells_oneCell _)
    simp only [Nat.add_zero, hsc] at hst
    rw [hxs] at hf
    have hr : (Builtin.append_ #[t, u] ty #[.slice (some ⟨g, 0, none⟩) l.length cap, .string ⟨x.toArray⟩]).run P w = .ok (.slice (some ⟨g, 0, none⟩) (l.length + x.length) cap) (w.setRow g (cur.toList.take l.length ++ strCells ⟨x.toArray⟩ ++ cur.toList.drop (l.length + x.length)).toArray) := by
      simp [Builtin.append_, run_underlying ht, run_underlying hu, sizeOf, typeInfo, hi, hsize, Builtin.lenOf, hxs, hroom, hf, Addr.add_lit, hst]
    refine ⟨_, _, hr, ⟨g, cap, _, fz, by rw [List.length_append], hbg, setRow_heap w g cur _ e _ hg, hfz, by rw [List.length_append]; exact hroom, hcm, ?_, ?_⟩, ⟨g, cap, _, fz, rfl, hbg, setRow_heap w g cur _ e _ hg, hfz, hnc, hcm, ?_, ?_⟩, ⟨rfl, rfl, rfl, by simp, fun k _ hk => setRow_other w g k _ (fun e => hk (by simp [Value.ownBlock, e]))⟩⟩
    · simp only [List.size_toArray, List.length_append, List.length_take, List.length_drop, Array.length_toList, hsc]
      omega
    · rw [htake, strCells_eq, ← List.map_append]
      exact List.take_left' (by simp)
    · simp only [List.size_toArray, List.length_append, List.length_take, List.length_drop, Array.length_toList, hsc]
      omega
    · rw [htake, List.append_assoc]
      exact List.take_left' (by simp)
  · have holds : ∀ j u', (l.map u8V)[j]? = some u' → w.cell? ((⟨g, 0, none⟩ : Addr).add j) = some u' := by
      intro j u' hu'
      have hadd : (⟨g, 0, none⟩ : Addr).add j = ⟨g, j, none⟩ := by unfold Addr.add; split <;> simp_all
      rw [hadd, cell_of_row w g j cur e fz hg]
      rw [← htake, List.getElem?_take] at hu'
      split at hu'
      · simpa using hu'
      · cases hu'
    have hm : l.length + x.length ≤ maxLen := by unfold maxLen; omega
    have hr := run_append_grow_string (P := P) w t u ty e i (.int .u8 0) ht hu hi hz ⟨g, 0, none⟩ l.length cap (l.map u8V) (by rw [hsize]; simp) holds ⟨x.toArray⟩ (by rw [hxs]; omega) (by rw [hxs]; omega) (by rw [hby, hxs]; exact growslice_fits (by omega) (by omega))
    rw [hxs] at hr
    have hge := grownCap_ge w (l.length + x.length) cap e
    have hcm2 : grownCap w (l.length + x.length) cap e ≤ maxLen := grownCap_le_maxLen w (l.length + x.length) cap e hm
    have hold : OwnsBytes w base e (.slice (some ⟨g, 0, none⟩) l.length cap) l := ⟨g, cap, cur, fz, rfl, hbg, hg, hfz, hnc, hcm, hcs, htake⟩
    refine ⟨_, _, hr, ⟨w.heap.size, _, _, (0, 0), by rw [List.length_append], hbase, heap_alloc_new w.drew _, .inr rfl, by rw [List.length_append]; exact hge, hcm2, ?_, ?_⟩, hold.keep (fun k _ hk => heap_alloc_old w.drew _ hk), ⟨rfl, rfl, rfl, by simp, fun k hk _ => heap_alloc_old w.drew _ hk⟩⟩
    · have hz1 : (Value.int IntKind.u8 0).cells.size = 1 := rfl
      simp only [Array.size_append, List.size_toArray, size_zeroCells, hz1, List.length_map, hsc]
      omega
    · simp only [Array.toList_append, List.append_assoc, strCells_eq]
      rw [← List.append_assoc, ← List.map_append]
      exact List.take_left' (by simp)
theorem wp_append_bytes {o : Oper} {a : Act} {K : Act → World → Prop} {Q : Exit → Act → World → Prop} (sl x : Operand) (t u : TypeId)
    (ho : o.op = .call { callee := .builtin .append, args := #[sl, x], argTypes := #[t, u] })
    (base : Nat) (e : TypeId) (i : TypeInfo) (ht : P.underlying t = some (.slice e)) (hu : P.underlying u = some .string) (hi : P.info? e = some i) (hz : i.zero = some (.int .u8 0)) (hsize : i.size = 1) (hby : i.bytes = 1)
    (v : Value) (l y : List UInt8) (hs : a.eval sl = v) (hx : a.eval x = .string ⟨y.toArray⟩) (hown : OwnsBytes w base e v l) (hl : l.length + y.length ≤ 1000000) (hbase : base ≤ w.heap.size)
    (h : ∀ v' w', OwnsBytes w' base e v' (l ++ y) → OwnsBytes w' base e v l → w.grownBy w' v.ownBlock → K (a.put o.dst v') w') : o.wp P a w K Q := by
  obtain ⟨v', w', hr, h2, h3, h4⟩ := run_append_bytes (P := P) w base t u o.type e i ht hu hi hz hsize hby v l y hown hl hbase
  unfold Oper.wp execOp
  simp only [ho, resolve, invoke, builtin, Sem.run_bind, Sem.run_pure, Result.andThen_ok, List.map_toArray, List.map_cons, List.map_nil, hs, hx, hr]
  exact h v' w' h2 h3 h4
theorem wpList_append_bytes {ops : Array Oper} {rest : List Oper} {o : Oper} {a : Act} {Q : Exit → Act → World → Prop} (hgd : o.guard = none) (sl x : Operand) (t u : TypeId)
    (ho : o.op = .call { callee := .builtin .append, args := #[sl, x], argTypes := #[t, u] })
    (base : Nat) (e : TypeId) (i : TypeInfo) (ht : P.underlying t = some (.slice e)) (hu : P.underlying u = some .string) (hi : P.info? e = some i) (hz : i.zero = some (.int .u8 0)) (hsize : i.size = 1) (hby : i.bytes = 1)
    (v : Value) (l y : List UInt8) (hs : a.eval sl = v) (hx : a.eval x = .string ⟨y.toArray⟩) (hown : OwnsBytes w base e v l) (hl : l.length + y.length ≤ 1000000) (hbase : base ≤ w.heap.size)
    (h : ∀ v' w', OwnsBytes w' base e v' (l ++ y) → OwnsBytes w' base e v l → w.grownBy w' v.ownBlock → wpList P ops Q rest (a.put o.dst v') w') : wpList P ops Q (o :: rest) a w :=
  wpList_plain hgd fun _ hK => wp_append_bytes w sl x t u ho base e i ht hu hi hz hsize hby v l y hs hx hown hl hbase fun v' w' h2 h3 h4 => hK _ _ (h v' w' h2 h3 h4)
theorem step_append_bytes {ops : Array Oper} {o : Oper} {a : Act} {K : Act → World → Prop} {Q : Exit → Act → World → Prop} {E : Prop} (hgd : o.guard = none) (sl x : Operand) (t u : TypeId)
    (ho : o.op = .call { callee := .builtin .append, args := #[sl, x], argTypes := #[t, u] })
    (base : Nat) (e : TypeId) (i : TypeInfo) (ht : P.underlying t = some (.slice e)) (hu : P.underlying u = some .string) (hi : P.info? e = some i) (hz : i.zero = some (.int .u8 0)) (hsize : i.size = 1) (hby : i.bytes = 1)
    (v : Value) (l y : List UInt8) (hs : a.eval sl = v) (hx : a.eval x = .string ⟨y.toArray⟩) (hown : OwnsBytes w base e v l) (hl : l.length + y.length ≤ 1000000) (hbase : base ≤ w.heap.size)
    (h : ∀ v' w', OwnsBytes w' base e v' (l ++ y) → OwnsBytes w' base e v l → w.grownBy w' v.ownBlock → K (a.put o.dst v') w') : if Region.wanted o (yielded ops a.tmps) = true then Oper.wp P o a w K Q else E := by
  have hw : Region.wanted o (yielded ops a.tmps) = true := by simp [Region.wanted, hgd]
  rw [if_pos hw]
  exact wp_append_bytes w sl x t u ho base e i ht hu hi hz hsize hby v l y hs hx hown hl hbase h
end
theorem since_bytes {w W W' : World} {base : Nat} {e : TypeId} {v : Value} {l : List UInt8} (hS : Since w W) (hown : OwnsBytes W base e v l) (hb : w.heap.size ≤ base) (hg : W.grownBy W' v.ownBlock) : Since w W' :=
  Below.grown hS hg hS.size fun k hk => Nat.le_trans hb (hown.own k hk)
theorem cell_bytes {W W' : World} {b : Nat} {v : Value} (hg : W.grownBy W' v.ownBlock) (hne : v.ownBlock ≠ some b) {j : Nat} {u : Value} (hc : W.cell? ⟨b, j, none⟩ = some u) : W'.cell? ⟨b, j, none⟩ = some u :=
  (World.cell?_of_block (hg.block b (World.block_lt_of_cell? W _ hc) (fun e => hne e.symm))).trans hc
/-- '[]byte(s)'. -/
theorem conv_bytes (w : World) (x : List UInt8) (hx : x.length ≤ 1000000) : ∃ v w', (convert 9 52 (.string ⟨x.toArray⟩)).run Tryd.prog w = .ok v w' ∧ OwnsBytes w' w.heap.size 5 v x ∧ Since w w' := by
  have h := run_bytes_of_string w 9 52 5 ⟨x.toArray⟩ Tryd.underlying9 Tryd.underlying52 Tryd.underlying5
  have hxs : (ByteArray.mk x.toArray).size = x.length := by simp [ByteArray.size]
  rw [hxs] at h
  have hge := grownCap_ge w x.length 0 5
  have hcm := grownCap_le_maxLen w x.length 0 5 (by unfold maxLen; omega)
  refine ⟨_, _, h, ⟨w.heap.size, _, _, _, rfl, Nat.le_refl _, heap_alloc_new w.drew _, .inl ?_, hge, hcm, ?_, ?_⟩, (Since.refl w).drew.alloc _⟩
  · simp [bytesRow, hxs]; omega
  · simp [bytesRow, hxs]; omega
  · simp only [bytesRow, Array.toList_append, Array.toList_map]
    exact List.take_left' (by simp)
end Go.Proofs.YtiadjmfdahendaaDoor
