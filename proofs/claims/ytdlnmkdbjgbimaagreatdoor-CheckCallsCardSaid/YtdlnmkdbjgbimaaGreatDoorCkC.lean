/- check: premises.fact; the cites that are not ahead. check: instance. -/
import Derived.Test.YtdlnmkdbjgbimaaGreatDoorCkB
import Derived.Test.YtdlnmkdbjgbimaaGreatDoorMaA
namespace Go.Proofs.YtdlnmkdbjgbimaaGreatDoor
open Go.RowKit

/-- A map may have grown, all else stands. -/
def GB (w : World) (mm : Nat) (W : World) : Prop := w.grownBy W (some mm)
theorem GB.refl (w : World) (mm : Nat) : GB w mm w := World.grownBy.refl w _
theorem since_grown {a b : World} (h : Since a b) : a.grownBy b none := ⟨h.os, h.tape, h.output, h.size, fun k hk _ => h.block k hk⟩
theorem GB.next {w a b : World} {mm : Nat} (h : GB w mm a) (hs : Since a b) : GB w mm b := World.grownBy.trans h ((since_grown hs).but _)
theorem GB.trans {w a b : World} {mm : Nat} (h : GB w mm a) (hs : GB a mm b) : GB w mm b := World.grownBy.trans h hs
theorem since_new (W : World) (o : Obj) (cs : Array Value) : Since W ((W.alloc o).setRow W.heap.size cs) :=
  since_upd ((Since.refl W).alloc o) (grown_setRow _ _ _) (Nat.le_refl _)
set_option maxHeartbeats 4000000 in
theorem kfact_any (a_s a_p : List UInt8) (a_n : Int) (a_v0 a_v1 a_v2 a_v3 : Bool) (a_l0 a_l1 a_l2 a_l3 : List UInt8) (va : Option Addr) (n c mf k : Nat) (F : List Atm) (w : World) (hf : ASet w mf k F) (hF : ∀ y ∈ F, FitsN y) (hx : FitsN ((a_s, a_p, a_n, (a_v0, a_l0), (a_v1, a_l1), (a_v2, a_l2), (a_v3, a_l3)) : Atm)) :
    Calls Tryz.prog 32 #[.agg #[.slice va n c, .map (some mf)], .agg #[.string ⟨a_s.toArray⟩, .string ⟨a_p.toArray⟩, .int .i64 a_n, .bool a_v0, .string ⟨a_l0.toArray⟩, .bool a_v1, .string ⟨a_l1.toArray⟩, .bool a_v2, .string ⟨a_l2.toArray⟩, .bool a_v3, .string ⟨a_l3.toArray⟩]] w fun e w' => e = .returned (.bool (decide (((a_s, a_p, a_n, (a_v0, a_l0), (a_v1, a_l1), (a_v2, a_l2), (a_v3, a_l3)) : Atm) ∈ F))) ∧ Since w w' := by
  have hS : Since w ((w.alloc (.cells #[.slice va n c, .map (some mf)] 65)).alloc (.cells #[.string ⟨a_s.toArray⟩, .string ⟨a_p.toArray⟩, .int .i64 a_n, .bool a_v0, .string ⟨a_l0.toArray⟩, .bool a_v1, .string ⟨a_l1.toArray⟩, .bool a_v2, .string ⟨a_l2.toArray⟩, .bool a_v3, .string ⟨a_l3.toArray⟩] 29)) := ((Since.refl _).alloc _).alloc _
  have hf1 := hf.next hS
  have hb1 : Cel ((w.alloc (.cells #[.slice va n c, .map (some mf)] 65)).alloc (.cells #[.string ⟨a_s.toArray⟩, .string ⟨a_p.toArray⟩, .int .i64 a_n, .bool a_v0, .string ⟨a_l0.toArray⟩, .bool a_v1, .string ⟨a_l1.toArray⟩, .bool a_v2, .string ⟨a_l2.toArray⟩, .bool a_v3, .string ⟨a_l3.toArray⟩] 29)) w.heap.size #[.slice va n c, .map (some mf)] 65 := Cel.next (heap_alloc_new w _) ((Since.refl _).alloc _)
  have hb2 : ((w.alloc (.cells #[.slice va n c, .map (some mf)] 65)).alloc (.cells #[.string ⟨a_s.toArray⟩, .string ⟨a_p.toArray⟩, .int .i64 a_n, .bool a_v0, .string ⟨a_l0.toArray⟩, .bool a_v1, .string ⟨a_l1.toArray⟩, .bool a_v2, .string ⟨a_l2.toArray⟩, .bool a_v3, .string ⟨a_l3.toArray⟩] 29)).cell? ⟨w.heap.size, 1, none⟩ = some (.map (some mf)) := hb1.cell 1
  have a_B : Box ((w.alloc (.cells #[.slice va n c, .map (some mf)] 65)).alloc (.cells #[.string ⟨a_s.toArray⟩, .string ⟨a_p.toArray⟩, .int .i64 a_n, .bool a_v0, .string ⟨a_l0.toArray⟩, .bool a_v1, .string ⟨a_l1.toArray⟩, .bool a_v2, .string ⟨a_l2.toArray⟩, .bool a_v3, .string ⟨a_l3.toArray⟩] 29)) (w.heap.size + 1) ((a_s, a_p, a_n, (a_v0, a_l0), (a_v1, a_l1), (a_v2, a_l2), (a_v3, a_l3)) : Atm) := by
    have h := box_new (w.alloc (.cells #[.slice va n c, .map (some mf)] 65)) ((a_s, a_p, a_n, (a_v0, a_l0), (a_v1, a_l1), (a_v2, a_l2), (a_v3, a_l3)) : Atm) 29
    rw [World.size_alloc] at h
    exact h
  obtain ⟨a_c0, a_c1, a_c2, a_c3, a_c4, a_c5, a_c6, a_c7, a_c8, a_c9, a_c10⟩ := a_B.all
  obtain ⟨T, hT⟩ : ∃ T, Hid (decide (((a_s, a_p, a_n, (a_v0, a_l0), (a_v1, a_l1), (a_v2, a_l2), (a_v3, a_l3)) : Atm) ∈ F) = T) := ⟨_, rfl⟩
  rw [hT.out]
  have HFX := Lib.hid hF
  have HX := Lib.hid hx
  have HS := Lib.hid hS
  have HF1 := Lib.hid hf1
  clear hb1 hF hx hf hf1 a_B hS
  go_enter Tryz.func32, Tryz.ntmps32
  go_upto_region 1 with (fail)
  generalize hw : ((w.alloc (.cells #[.slice va n c, .map (some mf)] 65)).alloc (.cells #[.string ⟨a_s.toArray⟩, .string ⟨a_p.toArray⟩, .int .i64 a_n, .bool a_v0, .string ⟨a_l0.toArray⟩, .bool a_v1, .string ⟨a_l1.toArray⟩, .bool a_v2, .string ⟨a_l2.toArray⟩, .bool a_v3, .string ⟨a_l3.toArray⟩] 29)) = w1 at *
  clear hw
  go_wp2_with (refine alookup _ rfl _ _ rfl mf k F rfl HF1.out HFX.out (x := ((a_s, a_p, a_n, (a_v0, a_l0), (a_v1, a_l1), (a_v2, a_l2), (a_v3, a_l3)) : Atm)) HX.out rfl T hT.out ?_)
  go_ret
  first
    | exact ⟨rfl, HS.out⟩
    | exact ⟨rfl, HS.out.alloc _⟩
set_option maxHeartbeats 1000000 in
theorem kstep1_any (c i : Int) (g : Nat) (w : World) (h0 : w.cell? ⟨g, 0, none⟩ = some (.int .i64 i)) :
    Calls Tryz.prog 34 #[.int .i64 c, .pointer (some ⟨g, 0, none⟩)] w fun e w' => e = .returned (.bool (decide (c < 0) || decide (i ≤ c))) ∧ w = w' := by
  by_cases h1 : c < 0
  · go_enter Tryz.func34, Tryz.ntmps34
    go_wp2_with fail
    go_ret
    exact ⟨by simp [h1], rfl⟩
  · go_enter Tryz.func34, Tryz.ntmps34
    go_wp2_with fail
    go_ret
    exact ⟨by rw [decide_eq_false (show ¬ c < 0 by omega), Bool.false_or]; rfl, rfl⟩
def idxI (f : Int → Bool) : List Int → Nat → Int
  | [], _ => -1
  | t :: r, k => if f t then k else idxI f r (k + 1)
theorem idxI_any (f : Int → Bool) : ∀ (L : List Int) (k : Nat), decide (0 ≤ idxI f L k) = L.any f
  | [], _ => rfl
  | t :: r, k => by
    rw [idxI, List.any_cons]
    cases h : f t
    · rw [if_neg (by simp), Bool.false_or]; exact idxI_any f r (k + 1)
    · rw [if_pos rfl, Bool.true_or]; exact decide_eq_true (by omega)
/-- A cite that is not ahead. -/
def badC (i c : Int) : Bool := decide (c < 0) || decide (i ≤ c)
set_option maxHeartbeats 1000000 in
theorem idx_cites (v : Value) (L : List Int) (i : Int) (g : Nat) (w : World) (hv : IRow w v L) (h0 : w.cell? ⟨g, 0, none⟩ = some (.int .i64 i)) (ll : L.length ≤ 1000000) :
    Calls Tryz.prog 50 #[v, .func (.func 34) #[] #[.pointer (some ⟨g, 0, none⟩)]] w fun e w' => e = .returned (.int .i64 (idxI (badC i) L 0)) ∧ w = w' := by
  obtain ⟨R, hR⟩ : ∃ R, Hid (R = idxI (badC i) L 0) := ⟨_, rfl⟩
  rw [← hR.out]
  obtain ⟨a1, c1, rfl⟩ := hv.slice
  have HV := Lib.hid hv
  have HR1 := Lib.hid (fun s => kstep1_any s i g w h0)
  clear hv h0
  go_enter Tryz.func50, Tryz.ntmps50
  go_wp2_with fail
  go_loopw [8] (fun h wr => ∃ k : Nat, k ≤ L.length ∧ h = .int .i64 k ∧ w = wr ∧ Hid (R = idxI (badC i) (L.drop k) k)) (fun h _ => L.length - (intOf h).toNat)
  case atStart => exact ⟨0, by omega, (by first | rfl | trivial), (by first | rfl | trivial), hR⟩
  case round =>
    obtain ⟨k, hk, rfl, rfl, hres⟩ := hrel
    by_cases hlt : k < L.length
    · have hlt2 : (k : Int) < (L.length : Int) := by omega
      have hlt0 : (0 : Int) ≤ (k : Int) := by omega
      obtain ⟨b, o, rfl, hc, hat⟩ := HV.out.get (by omega)
      have d1 := hat k hlt
      obtain ⟨s, hs⟩ : ∃ s, Hid (s = L[k]) := ⟨L[k], rfl⟩
      unfold IntAt at d1
      rw [Nat.mul_one, ← hs.out] at d1
      clear hat
      obtain ⟨t, ht⟩ : ∃ t, Hid (t = badC i s) := ⟨_, rfl⟩
      have HC := Lib.hid (HR1.out s)
      rw [show (decide (s < 0) || decide (i ≤ s)) = t from ht.out.symm] at HC
      have hnx : Hid (R = if t then (k : Int) else idxI (badC i) (L.drop (k + 1)) (k + 1)) := by
        show _ = _
        rw [hres.out, List.drop_eq_getElem_cons hlt, idxI, ← hs.out, ← ht.out]
      clear hres
      cases t
      · go_wp2_with fail
        refine HC.out.mono ?_
        rintro e w1 ⟨rfl, rfl⟩
        go_wp2_with fail
        go_roundw
        case rel => exact ⟨k + 1, by omega, by go_num, (by first | rfl | trivial), hnx⟩
        case measure => simp [intOf]; omega
      · go_wp2_with fail
        refine HC.out.mono ?_
        rintro e w1 ⟨rfl, rfl⟩
        go_wp2_with fail
        go_ret
        exact ⟨ret_int hnx.out.symm, rfl⟩
    · have hlt2 : ¬ (k : Int) < (L.length : Int) := by omega
      go_wp2_with fail
      go_ret
      refine ⟨ret_int ?_, rfl⟩
      rw [hres.out, List.drop_eq_nil_of_le (by omega)]; rfl
set_option maxHeartbeats 1000000 in
theorem has_cites (v : Value) (L : List Int) (i : Int) (g : Nat) (w : World) (hv : IRow w v L) (h0 : w.cell? ⟨g, 0, none⟩ = some (.int .i64 i)) (ll : L.length ≤ 1000000) :
    Calls Tryz.prog 33 #[v, .func (.func 34) #[] #[.pointer (some ⟨g, 0, none⟩)]] w fun e w' => e = .returned (.bool (L.any (badC i))) ∧ w = w' := by
  have HC := Lib.hid (idx_cites v L i g w hv h0 ll)
  have ha := idxI_any (badC i) L 0
  clear hv h0
  rw [← ha]
  clear ha
  generalize idxI (badC i) L 0 = R at *
  go_enter Tryz.func33, Tryz.ntmps33
  go_wp2_with fail
  refine HC.out.mono ?_
  rintro e w1 ⟨rfl, rfl⟩
  go_wp2_with fail
  go_ret
  exact ⟨rfl, rfl⟩
end Go.Proofs.YtdlnmkdbjgbimaaGreatDoor

namespace Go.Proofs.YtdlnmkdbjgbimaaGreatDoor
open Go.RowKit

/-- Matching on, pair by pair. -/
def instF : Option (List Bnd) → List (Atm × Atm) → Option (List Bnd)
  | none, _ => none
  | some l, [] => some l
  | some l, q :: r => instF (extA l q.1 q.2) r
theorem instF_none (P : List (Atm × Atm)) : instF none P = none := by cases P <;> rfl
/-- Is an atom, with those that it cites, an instance of a clause? -/
def instB (c : Cls) (a : Atm) (aZ : List Atm) : Bool := (instF (extA [] c.1 a) (c.2.zip aZ)).isSome
theorem matchF_bnd : ∀ (P : List (Tm × Tm)) (l m : List Bnd), NamedP P → (∀ q ∈ P, q.2.1 = false) → bndN l → matchF P l = some m → bndN m ∧ m.length ≤ l.length + P.length
  | [], l, m, _, _, hl, h => by
    rw [matchF] at h
    cases h
    exact ⟨hl, by omega⟩
  | p :: r, l, m, hn, hg, hl, h => by
    have hn1 := hn p List.mem_cons_self
    have hg1 := hg p List.mem_cons_self
    have hn2 : NamedP r := fun q hq => hn q (List.mem_cons_of_mem _ hq)
    have hg2 : ∀ q ∈ r, q.2.1 = false := fun q hq => hg q (List.mem_cons_of_mem _ hq)
    rw [matchF] at h
    rw [List.length_cons]
    split at h
    · split at h
      · split at h
        · obtain ⟨h1, h2⟩ := matchF_bnd r l m hn2 hg2 hl h
          exact ⟨h1, by omega⟩
        · cases h
      · next hgb =>
        obtain ⟨h1, h2⟩ := matchF_bnd r _ m hn2 hg2 (hl.bind hg1 hn1.1 hn1.2 hgb) h
        rw [bind_len] at h2
        exact ⟨h1, by omega⟩
    · split at h
      · obtain ⟨h1, h2⟩ := matchF_bnd r l m hn2 hg2 hl h
        exact ⟨h1, by omega⟩
      · cases h
theorem extA_bnd {l m : List Bnd} {a b : Atm} (ka : checkA a = 0) (kb : checkA b = 0) (hg : groundA b = true) (hl : bndN l) (h : extA l a b = some m) : bndN m ∧ m.length ≤ l.length + 4 := by
  unfold extA at h
  split at h
  · next he =>
    have hc : countA a = countA b := by unfold countA; rw [he.2.2]
    obtain ⟨h1, h2⟩ := matchF_bnd _ l m (named_pairs ka kb hc) (ground_pairs hg hc) hl h
    have h3 := countA_le a
    refine ⟨h1, ?_⟩
    rw [List.length_take] at h2
    omega
  · cases h
theorem MatchP.no {w : World} {e : Ending} {w' : World} (h : MatchP none w e w') : e = .returned (.tuple #[.slice none 0 0, .bool false]) ∧ Since w w' := by
  obtain ⟨v, r, h1, h2, h3, h4⟩ := h
  subst h3; subst h4
  exact ⟨h1, h2⟩
theorem MatchP.yes {m : List Bnd} {w : World} {e : Ending} {w' : World} (h : MatchP (some m) w e w') : ∃ v, e = .returned (.tuple #[v, .bool true]) ∧ RowS w' v m ∧ Since w w' := by
  obtain ⟨v, r, h1, h2, h3, h4⟩ := h
  subst h3
  exact ⟨v, h1, h4, h2⟩
/-- Where instance stands after some rounds. -/
def InstI (R : Bool) (P : List (Atm × Atm)) (W : World) (v r : Value) (j : Nat) : Prop :=
  (∃ m, r = .bool true ∧ RowS W v m ∧ bndN m ∧ m.length ≤ 4 * (j + 1) ∧ R = (instF (some m) (P.drop j)).isSome) ∨ (r = .bool false ∧ v = .slice none 0 0 ∧ R = false)
theorem bin_val {o : Oper} {ev : Operand → Value} {Pg : Program} {W : World} {u v : Bool} (h : (execOp ev o).run Pg W = .ok (.value (.bool u)) W) (e : u = v) : (execOp ev o).run Pg W = .ok (.value (.bool v)) W := e ▸ h
theorem at_push {W : World} {b o : Nat} {cs : Array Value} {u : Value} (h : At W b o cs) (hu : W.cell? ⟨b, o + cs.size, none⟩ = some u) : At W b o (cs.push u) := by
  intro j v hv
  rw [Array.getElem?_push] at hv
  split at hv
  · next e => cases hv; rw [e]; exact hu
  · exact h j v hv
section
variable {o : Oper} {x y : Operand} {ev : Operand → Value}
theorem st_row {P : Program} {ty T : TypeId} {g : Nat} {cells old : Array Value} (ho : o.op = Op.store ty x y) (hx : ev x = .pointer (some ⟨g, 0, none⟩)) (hy : ev y = .agg cells) (hi : (P.info? ty).map (·.size) = some cells.size) (hs : old.size = cells.size) (h1 : cells.all (·.oneCell') = true) (W : World) (h : Cel W g old T) :
    (execOp ev o).run P W = .ok .skip (W.setRow g cells) := by
  simp only [execOp, ho, hx, hy, Instr.storeAt, Instr.sureAddr, Sem.run_bind, Sem.run_pure, Result.andThen_ok, run_storeVar_row W g T ty old cells h hi hs h1]
theorem geq_int {s t : Int} (ho : o.op = .binOp .geq 3 x y 3) (hx : ev x = .int .i64 s) (hy : ev y = .int .i64 t) (W : World) :
    (execOp ev o).run Tryz.prog W = .ok (.value (.bool (decide (t ≤ s)))) W := by
  simp only [execOp, ho]
  go_simp
end
set_option maxHeartbeats 8000000 in
set_option maxRecDepth 100000 in
theorem kinst_any (a_s a_p : List UInt8) (a_n : Int) (a_v0 a_v1 a_v2 a_v3 : Bool) (a_l0 a_l1 a_l2 a_l3 : List UInt8) (k : Nat) (sa : Option Addr) (sc : Nat) (V : List Int) (g mf mm : Nat) (va : Option Addr) (lc : Nat) (L : List Cls) (vs : Option Addr) (tc : Nat) (T : List Stp) (aZ : List Atm) (w : World)
    (hl : At w g 0 #[.slice va L.length lc, .map (some mf), .slice vs T.length tc, .map (some mm)]) (hv : RRow w (.slice va L.length lc) L) (ht : SRow w (.slice vs T.length tc) T) (hV : IRow w (.slice sa V.length sc) V) (hk : k < L.length) (hkb : L.length ≤ 100000)
    (hlen : V.length = (L[k]).2.length) (hl100 : V.length ≤ 100) (has : aZ.length = V.length) (hc : ∀ j (h : j < V.length) (h2 : j < aZ.length), ∃ (q : Nat) (hq : q < T.length), V[j] = (q : Int) ∧ (T[q]).1 = aZ[j] ∧ factB (aZ[j]) = true ∧ FitsA (aZ[j]))
    (ka : factB ((a_s, a_p, a_n, (a_v0, a_l0), (a_v1, a_l1), (a_v2, a_l2), (a_v3, a_l3)) : Atm) = true) (hfa : FitsA ((a_s, a_p, a_n, (a_v0, a_l0), (a_v1, a_l1), (a_v2, a_l2), (a_v3, a_l3)) : Atm)) (hcl : clauseB (L[k]) = true) (hE : Env w) :
    Calls Tryz.prog 35 #[.pointer (some ⟨g, 0, none⟩), .agg #[.string ⟨a_s.toArray⟩, .string ⟨a_p.toArray⟩, .int .i64 a_n, .bool a_v0, .string ⟨a_l0.toArray⟩, .bool a_v1, .string ⟨a_l1.toArray⟩, .bool a_v2, .string ⟨a_l2.toArray⟩, .bool a_v3, .string ⟨a_l3.toArray⟩, .int .i64 (k : Int), .slice sa V.length sc]] w fun e w' => e = .returned (.bool (instB (L[k]) ((a_s, a_p, a_n, (a_v0, a_l0), (a_v1, a_l1), (a_v2, a_l2), (a_v3, a_l3)) : Atm) aZ)) ∧ Since w w' := by
  obtain ⟨C, hC⟩ : ∃ C, Hid (C = L[k]) := ⟨L[k], rfl⟩
  obtain ⟨bc, oc, rfl, hcc, hat⟩ := hv.get (by omega)
  obtain ⟨e1, u, e2, e3⟩ := hat k hk
  rw [← hC.out] at e1 e3 hlen hcl ⊢
  obtain ⟨⟨h_s, h_p, h_n, ⟨h_v0, h_l0⟩, ⟨h_v1, h_l1⟩, ⟨h_v2, h_l2⟩, ⟨h_v3, h_l3⟩⟩, B⟩ := C
  obtain ⟨ba, bcap, rfl⟩ := e3.slice
  simp only at e1 e2 e3 hlen
  have hCA : At w bc (oc + k * 12) #[.string ⟨h_s.toArray⟩, .string ⟨h_p.toArray⟩, .int .i64 h_n, .bool h_v0, .string ⟨h_l0.toArray⟩, .bool h_v1, .string ⟨h_l1.toArray⟩, .bool h_v2, .string ⟨h_l2.toArray⟩, .bool h_v3, .string ⟨h_l3.toArray⟩, .slice ba B.length bcap] := at_push (cs := #[.string ⟨h_s.toArray⟩, .string ⟨h_p.toArray⟩, .int .i64 h_n, .bool h_v0, .string ⟨h_l0.toArray⟩, .bool h_v1, .string ⟨h_l1.toArray⟩, .bool h_v2, .string ⟨h_l2.toArray⟩, .bool h_v3, .string ⟨h_l3.toArray⟩]) e1 e2
  have hbody : (B.all fun a => checkA a == 0) = true := by
    simp only [clauseB, Bool.and_eq_true] at hcl
    exact hcl.1
  have hhead : checkA ((h_s, h_p, h_n, (h_v0, h_l0), (h_v1, h_l1), (h_v2, h_l2), (h_v3, h_l3)) : Atm) = 0 := by
    simp only [clauseB, Bool.and_eq_true, beq_iff_eq] at hcl
    exact hcl.2.2
  have kA : checkA ((a_s, a_p, a_n, (a_v0, a_l0), (a_v1, a_l1), (a_v2, a_l2), (a_v3, a_l3)) : Atm) = 0 := by
    simp only [factB, Bool.and_eq_true, beq_iff_eq] at ka
    exact ka.1
  have gA : groundA ((a_s, a_p, a_n, (a_v0, a_l0), (a_v1, a_l1), (a_v2, a_l2), (a_v3, a_l3)) : Atm) = true := by
    simp only [factB, Bool.and_eq_true] at ka
    exact ka.2
  have HB := Lib.hid e3
  have HM := Lib.hid (fun W (hEW : Env W) => mmatch_any h_s h_p h_n h_v0 h_v1 h_v2 h_v3 h_l0 h_l1 h_l2 h_l3 a_s a_p a_n a_v0 a_v1 a_v2 a_v3 a_l0 a_l1 a_l2 a_l3 hhead kA gA W hEW hfa)
  have HBODY := Lib.hid hbody
  have HC := Lib.hid hc
  have HE := Lib.hid hE
  have HV := Lib.hid hV
  have HT := Lib.hid ht
  have HLEN := Lib.hid hlen
  have HL100 := Lib.hid hl100
  have HKB := Lib.hid hkb
  have HAS := Lib.hid has
  have HK := Lib.hid hk
  have hn0 : ¬ ((k : Int) < 0) := by omega
  have hn1 : ¬ ((L.length : Int) ≤ (k : Int)) := by omega
  have hSt : Cel (w.alloc (.cells #[.string ⟨a_s.toArray⟩, .string ⟨a_p.toArray⟩, .int .i64 a_n, .bool a_v0, .string ⟨a_l0.toArray⟩, .bool a_v1, .string ⟨a_l1.toArray⟩, .bool a_v2, .string ⟨a_l2.toArray⟩, .bool a_v3, .string ⟨a_l3.toArray⟩, .int .i64 (k : Int), .slice sa V.length sc] 49)) w.heap.size #[.string ⟨a_s.toArray⟩, .string ⟨a_p.toArray⟩, .int .i64 a_n, .bool a_v0, .string ⟨a_l0.toArray⟩, .bool a_v1, .string ⟨a_l1.toArray⟩, .bool a_v2, .string ⟨a_l2.toArray⟩, .bool a_v3, .string ⟨a_l3.toArray⟩, .int .i64 (k : Int), .slice sa V.length sc] 49 := heap_alloc_new w _
  have hS : Since w (w.alloc (.cells #[.string ⟨a_s.toArray⟩, .string ⟨a_p.toArray⟩, .int .i64 a_n, .bool a_v0, .string ⟨a_l0.toArray⟩, .bool a_v1, .string ⟨a_l1.toArray⟩, .bool a_v2, .string ⟨a_l2.toArray⟩, .bool a_v3, .string ⟨a_l3.toArray⟩, .int .i64 (k : Int), .slice sa V.length sc] 49)) := (Since.refl w).alloc _
  have hs := hSt.at
  replace hl := hl.next hS
  replace hCA := hCA.next hS
  obtain ⟨R, hR⟩ : ∃ R, Hid (R = instB (((h_s, h_p, h_n, (h_v0, h_l0), (h_v1, h_l1), (h_v2, h_l2), (h_v3, h_l3)) : Atm), B) ((a_s, a_p, a_n, (a_v0, a_l0), (a_v1, a_l1), (a_v2, a_l2), (a_v3, a_l3)) : Atm) aZ) := ⟨_, rfl⟩
  rw [← hR.out]
  obtain ⟨X, hX⟩ : ∃ X, Hid (X = extA [] ((h_s, h_p, h_n, (h_v0, h_l0), (h_v1, h_l1), (h_v2, h_l2), (h_v3, h_l3)) : Atm) ((a_s, a_p, a_n, (a_v0, a_l0), (a_v1, a_l1), (a_v2, a_l2), (a_v3, a_l3)) : Atm)) := ⟨_, rfl⟩
  rw [← hX.out] at HM
  have hR0 : Hid (R = (instF X (B.zip aZ)).isSome) := by show _ = _; rw [hR.out, hX.out]; rfl
  have hXB : Hid (∀ m, X = some m → bndN m ∧ m.length ≤ 4) := by
    intro m hm
    obtain ⟨h1, h2⟩ := extA_bnd hhead kA gA bndN.nil (hX.out.symm.trans hm)
    exact ⟨h1, by simpa using h2⟩
  clear hR hX e1 e2 e3 hat hv ht hV hc hE ka hfa hcl hC kA gA hhead hbody hlen hl100 hkb hSt hcc has hk
  go_enter Tryz.func35, Tryz.ntmps35
  go_upto_region 1 with (fail)
  generalize hw1 : w.alloc (.cells #[.string ⟨a_s.toArray⟩, .string ⟨a_p.toArray⟩, .int .i64 a_n, .bool a_v0, .string ⟨a_l0.toArray⟩, .bool a_v1, .string ⟨a_l1.toArray⟩, .bool a_v2, .string ⟨a_l2.toArray⟩, .bool a_v3, .string ⟨a_l3.toArray⟩, .int .i64 (k : Int), .slice sa V.length sc] 49) = w1 at *
  clear hw1
  replace hS := hS.trans ((Since.refl w1).drew)
  replace hl := hl.next ((Since.refl w1).drew)
  replace hs := hs.next ((Since.refl w1).drew)
  replace hCA := hCA.next ((Since.refl w1).drew)
  refine hx_begin (S := fun W => (Since w W) ∧ (At W g 0 #[.slice (some ⟨bc, oc, none⟩) L.length lc, .map (some mf), .slice vs T.length tc, .map (some mm)]) ∧ (At W w.heap.size 0 #[.string ⟨a_s.toArray⟩, .string ⟨a_p.toArray⟩, .int .i64 a_n, .bool a_v0, .string ⟨a_l0.toArray⟩, .bool a_v1, .string ⟨a_l1.toArray⟩, .bool a_v2, .string ⟨a_l2.toArray⟩, .bool a_v3, .string ⟨a_l3.toArray⟩, .int .i64 (k : Int), .slice sa V.length sc]) ∧ (At W bc (oc + k * 12) #[.string ⟨h_s.toArray⟩, .string ⟨h_p.toArray⟩, .int .i64 h_n, .bool h_v0, .string ⟨h_l0.toArray⟩, .bool h_v1, .string ⟨h_l1.toArray⟩, .bool h_v2, .string ⟨h_l2.toArray⟩, .bool h_v3, .string ⟨h_l3.toArray⟩, .slice ba B.length bcap])) (by kernel_rfl) ⟨hS, hl, hs, hCA⟩ (by kernel_rfl) (fun _ _ _ _ _ h => h) (fun hns hQ => ?_)
  refine hx_take (i := 0) (oi := _) (v := .pointer (some ⟨w.heap.size, 11, none⟩)) rfl rfl hns (by kernel_rfl) (by kernel_rfl) hQ (by kernel_rfl) (fun _ _ => by kernel_rfl) ⟨hS, hl, hs, hCA⟩ ?_
  refine hx_take (i := 1) (oi := _) (v := .int .i64 (k : Int)) rfl rfl hns (by kernel_rfl) (by kernel_rfl) hQ (by kernel_rfl) (fun W hW => ld_one rfl (by kernel_rfl) (by kernel_rfl) W (hW.2.2.1 11 _ rfl)) ⟨hS, hl, hs, hCA⟩ ?_
  refine hx_take (i := 2) (oi := _) (v := .bool false) rfl rfl hns (by kernel_rfl) (by kernel_rfl) hQ (by kernel_rfl) (fun W _ => bin_val (lss_int rfl (by kernel_rfl) (by kernel_rfl) W) (decide_eq_false hn0)) ⟨hS, hl, hs, hCA⟩ ?_
  refine hx_take (i := 3) (oi := _) (v := .bool false) rfl rfl hns (by kernel_rfl) (by kernel_rfl) hQ (by kernel_rfl) (fun _ _ => by kernel_rfl) ⟨hS, hl, hs, hCA⟩ ?_
  refine hx_take (i := 4) (oi := _) (v := .pointer (some ⟨w.heap.size, 11, none⟩)) rfl rfl hns (by kernel_rfl) (by kernel_rfl) hQ (by kernel_rfl) (fun _ _ => by kernel_rfl) ⟨hS, hl, hs, hCA⟩ ?_
  refine hx_take (i := 5) (oi := _) (v := .int .i64 (k : Int)) rfl rfl hns (by kernel_rfl) (by kernel_rfl) hQ (by kernel_rfl) (fun W hW => ld_one rfl (by kernel_rfl) (by kernel_rfl) W (hW.2.2.1 11 _ rfl)) ⟨hS, hl, hs, hCA⟩ ?_
  refine hx_take (i := 6) (oi := _) (v := .pointer (some ⟨g, 0, none⟩)) rfl rfl hns (by kernel_rfl) (by kernel_rfl) hQ (by kernel_rfl) (fun _ _ => by kernel_rfl) ⟨hS, hl, hs, hCA⟩ ?_
  refine hx_take (i := 7) (oi := _) (v := .pointer (some ⟨g, 0, none⟩)) rfl rfl hns (by kernel_rfl) (by kernel_rfl) hQ (by kernel_rfl) (fun _ _ => by kernel_rfl) ⟨hS, hl, hs, hCA⟩ ?_
  refine hx_take (i := 8) (oi := _) (v := .pointer (some ⟨g, 0, none⟩)) rfl rfl hns (by kernel_rfl) (by kernel_rfl) hQ (by kernel_rfl) (fun _ _ => by kernel_rfl) ⟨hS, hl, hs, hCA⟩ ?_
  refine hx_take (i := 9) (oi := _) (v := .pointer (some ⟨g, 0, none⟩)) rfl rfl hns (by kernel_rfl) (by kernel_rfl) hQ (by kernel_rfl) (fun _ _ => by kernel_rfl) ⟨hS, hl, hs, hCA⟩ ?_
  refine hx_take (i := 10) (oi := _) (v := .slice (some ⟨bc, oc, none⟩) L.length lc) rfl rfl hns (by kernel_rfl) (by kernel_rfl) hQ (by kernel_rfl) (fun W hW => ld_one rfl (by kernel_rfl) (by kernel_rfl) W (hW.2.1 0 _ rfl)) ⟨hS, hl, hs, hCA⟩ ?_
  refine hx_take (i := 11) (oi := _) (v := .int .i64 (L.length : Int)) rfl rfl hns (by kernel_rfl) (by kernel_rfl) hQ (by kernel_rfl) (fun _ _ => by kernel_rfl) ⟨hS, hl, hs, hCA⟩ ?_
  refine hx_take (i := 12) (oi := _) (v := .bool false) rfl rfl hns (by kernel_rfl) (by kernel_rfl) hQ (by kernel_rfl) (fun W _ => bin_val (geq_int rfl (by kernel_rfl) (by kernel_rfl) W) (decide_eq_false hn1)) ⟨hS, hl, hs, hCA⟩ ?_
  refine hx_take (i := 13) (oi := _) (v := .bool false) rfl rfl hns (by kernel_rfl) (by kernel_rfl) hQ (by kernel_rfl) (fun _ _ => by kernel_rfl) ⟨hS, hl, hs, hCA⟩ ?_
  refine wpAnyH_done (by kernel_rfl) ?_ _
  clear hns hQ
  simp only [List.set_cons_zero, List.set_cons_succ]
  go_upto_region 3 with (fail)
  replace hS := hS.trans ((Since.refl w1.drew).drew)
  replace hl := hl.next ((Since.refl w1.drew).drew)
  replace hs := hs.next ((Since.refl w1.drew).drew)
  replace hCA := hCA.next ((Since.refl w1.drew).drew)
  refine hx_begin (S := fun W => (Since w W) ∧ (At W g 0 #[.slice (some ⟨bc, oc, none⟩) L.length lc, .map (some mf), .slice vs T.length tc, .map (some mm)]) ∧ (At W w.heap.size 0 #[.string ⟨a_s.toArray⟩, .string ⟨a_p.toArray⟩, .int .i64 a_n, .bool a_v0, .string ⟨a_l0.toArray⟩, .bool a_v1, .string ⟨a_l1.toArray⟩, .bool a_v2, .string ⟨a_l2.toArray⟩, .bool a_v3, .string ⟨a_l3.toArray⟩, .int .i64 (k : Int), .slice sa V.length sc]) ∧ (At W bc (oc + k * 12) #[.string ⟨h_s.toArray⟩, .string ⟨h_p.toArray⟩, .int .i64 h_n, .bool h_v0, .string ⟨h_l0.toArray⟩, .bool h_v1, .string ⟨h_l1.toArray⟩, .bool h_v2, .string ⟨h_l2.toArray⟩, .bool h_v3, .string ⟨h_l3.toArray⟩, .slice ba B.length bcap])) (by kernel_rfl) ⟨hS, hl, hs, hCA⟩ (by kernel_rfl) (fun _ _ _ _ _ h => h) (fun hns hQ => ?_)
  refine hx_take (i := 0) (oi := _) (v := .pointer (some ⟨g, 0, none⟩)) rfl rfl hns (by kernel_rfl) (by kernel_rfl) hQ (by kernel_rfl) (fun _ _ => by kernel_rfl) ⟨hS, hl, hs, hCA⟩ ?_
  refine hx_take (i := 1) (oi := _) (v := .pointer (some ⟨g, 0, none⟩)) rfl rfl hns (by kernel_rfl) (by kernel_rfl) hQ (by kernel_rfl) (fun _ _ => by kernel_rfl) ⟨hS, hl, hs, hCA⟩ ?_
  refine hx_take (i := 2) (oi := _) (v := .pointer (some ⟨g, 0, none⟩)) rfl rfl hns (by kernel_rfl) (by kernel_rfl) hQ (by kernel_rfl) (fun _ _ => by kernel_rfl) ⟨hS, hl, hs, hCA⟩ ?_
  refine hx_take (i := 3) (oi := _) (v := .pointer (some ⟨g, 0, none⟩)) rfl rfl hns (by kernel_rfl) (by kernel_rfl) hQ (by kernel_rfl) (fun _ _ => by kernel_rfl) ⟨hS, hl, hs, hCA⟩ ?_
  refine hx_take (i := 4) (oi := _) (v := .slice (some ⟨bc, oc, none⟩) L.length lc) rfl rfl hns (by kernel_rfl) (by kernel_rfl) hQ (by kernel_rfl) (fun W hW => ld_one rfl (by kernel_rfl) (by kernel_rfl) W (hW.2.1 0 _ rfl)) ⟨hS, hl, hs, hCA⟩ ?_
  refine hx_take (i := 5) (oi := _) (v := .pointer (some ⟨w.heap.size, 11, none⟩)) rfl rfl hns (by kernel_rfl) (by kernel_rfl) hQ (by kernel_rfl) (fun _ _ => by kernel_rfl) ⟨hS, hl, hs, hCA⟩ ?_
  refine hx_take (i := 6) (oi := _) (v := .int .i64 (k : Int)) rfl rfl hns (by kernel_rfl) (by kernel_rfl) hQ (by kernel_rfl) (fun W hW => ld_one rfl (by kernel_rfl) (by kernel_rfl) W (hW.2.2.1 11 _ rfl)) ⟨hS, hl, hs, hCA⟩ ?_
  refine hx_take (i := 7) (oi := _) (v := .pointer (some ⟨bc, oc + k * 12, none⟩)) rfl rfl hns (by kernel_rfl) (by kernel_rfl) hQ (by kernel_rfl) (fun W _ => ix_sl (n := L.length) (c := lc) (K := 12) rfl (by kernel_rfl) (by kernel_rfl) (by kernel_rfl) rfl HK.out W) ⟨hS, hl, hs, hCA⟩ ?_
  refine hx_take (i := 8) (oi := _) (v := .agg #[.string ⟨h_s.toArray⟩, .string ⟨h_p.toArray⟩, .int .i64 h_n, .bool h_v0, .string ⟨h_l0.toArray⟩, .bool h_v1, .string ⟨h_l1.toArray⟩, .bool h_v2, .string ⟨h_l2.toArray⟩, .bool h_v3, .string ⟨h_l3.toArray⟩, .slice ba B.length bcap]) rfl rfl hns (by kernel_rfl) (by kernel_rfl) hQ (by kernel_rfl) (fun W hW => ld_at rfl (by kernel_rfl) (by kernel_rfl) (by kernel_rfl) W (hW.2.2.2)) ⟨hS, hl, hs, hCA⟩ ?_
  have hS_ := hS
  have hl_ := hl
  have hs_ := hs
  have hCA_ := hCA
  replace hS := hS.trans ((Since.refl w1.drew.drew).alloc (.cells #[.string ⟨#[]⟩, .string ⟨#[]⟩, .int .i64 0, .bool false, .string ⟨#[]⟩, .bool false, .string ⟨#[]⟩, .bool false, .string ⟨#[]⟩, .bool false, .string ⟨#[]⟩, .slice none 0 0] 47))
  replace hl := hl.next ((Since.refl w1.drew.drew).alloc (.cells #[.string ⟨#[]⟩, .string ⟨#[]⟩, .int .i64 0, .bool false, .string ⟨#[]⟩, .bool false, .string ⟨#[]⟩, .bool false, .string ⟨#[]⟩, .bool false, .string ⟨#[]⟩, .slice none 0 0] 47))
  replace hs := hs.next ((Since.refl w1.drew.drew).alloc (.cells #[.string ⟨#[]⟩, .string ⟨#[]⟩, .int .i64 0, .bool false, .string ⟨#[]⟩, .bool false, .string ⟨#[]⟩, .bool false, .string ⟨#[]⟩, .bool false, .string ⟨#[]⟩, .slice none 0 0] 47))
  replace hCA := hCA.next ((Since.refl w1.drew.drew).alloc (.cells #[.string ⟨#[]⟩, .string ⟨#[]⟩, .int .i64 0, .bool false, .string ⟨#[]⟩, .bool false, .string ⟨#[]⟩, .bool false, .string ⟨#[]⟩, .bool false, .string ⟨#[]⟩, .slice none 0 0] 47))
  refine hx_make (i := 9) (oi := _) (.pointer (some ⟨w1.drew.drew.heap.size, 0, none⟩)) (w1.drew.drew.alloc (.cells #[.string ⟨#[]⟩, .string ⟨#[]⟩, .int .i64 0, .bool false, .string ⟨#[]⟩, .bool false, .string ⟨#[]⟩, .bool false, .string ⟨#[]⟩, .bool false, .string ⟨#[]⟩, .slice none 0 0] 47)) rfl rfl (by kernel_rfl) (by kernel_rfl) (by kernel_rfl) ⟨hS, hl, hs, hCA⟩ ?_
  have hgr : Since w1.drew.drew ((w1.drew.drew.alloc (.cells #[.string ⟨#[]⟩, .string ⟨#[]⟩, .int .i64 0, .bool false, .string ⟨#[]⟩, .bool false, .string ⟨#[]⟩, .bool false, .string ⟨#[]⟩, .bool false, .string ⟨#[]⟩, .slice none 0 0] 47)).setRow w1.drew.drew.heap.size #[.string ⟨h_s.toArray⟩, .string ⟨h_p.toArray⟩, .int .i64 h_n, .bool h_v0, .string ⟨h_l0.toArray⟩, .bool h_v1, .string ⟨h_l1.toArray⟩, .bool h_v2, .string ⟨h_l2.toArray⟩, .bool h_v3, .string ⟨h_l3.toArray⟩, .slice ba B.length bcap]) := since_new _ _ _
  replace hS := hS_.trans hgr
  replace hl := hl_.next hgr
  replace hs := hs_.next hgr
  replace hCA := hCA_.next hgr
  clear hS_ hl_ hs_ hCA_ hgr
  refine hx_store (i := 10) (oi := _) ((w1.drew.drew.alloc (.cells #[.string ⟨#[]⟩, .string ⟨#[]⟩, .int .i64 0, .bool false, .string ⟨#[]⟩, .bool false, .string ⟨#[]⟩, .bool false, .string ⟨#[]⟩, .bool false, .string ⟨#[]⟩, .slice none 0 0] 47)).setRow w1.drew.drew.heap.size #[.string ⟨h_s.toArray⟩, .string ⟨h_p.toArray⟩, .int .i64 h_n, .bool h_v0, .string ⟨h_l0.toArray⟩, .bool h_v1, .string ⟨h_l1.toArray⟩, .bool h_v2, .string ⟨h_l2.toArray⟩, .bool h_v3, .string ⟨h_l3.toArray⟩, .slice ba B.length bcap]) rfl rfl (by kernel_rfl) (by kernel_rfl) (st_row rfl (by kernel_rfl) (by kernel_rfl) (by kernel_rfl) (by kernel_rfl) (by kernel_rfl) _ (heap_alloc_new _ _)) ⟨hS, hl, hs, hCA⟩ ?_
  refine wpAnyH_done (by kernel_rfl) ?_ _
  clear hns hQ
  simp only [List.set_cons_zero, List.set_cons_succ]
  obtain ⟨w2, hw2⟩ : ∃ w2, Hid (((w1.drew.drew.alloc (.cells #[.string ⟨#[]⟩, .string ⟨#[]⟩, .int .i64 0, .bool false, .string ⟨#[]⟩, .bool false, .string ⟨#[]⟩, .bool false, .string ⟨#[]⟩, .bool false, .string ⟨#[]⟩, .slice none 0 0] 47)).setRow w1.drew.drew.heap.size #[.string ⟨h_s.toArray⟩, .string ⟨h_p.toArray⟩, .int .i64 h_n, .bool h_v0, .string ⟨h_l0.toArray⟩, .bool h_v1, .string ⟨h_l1.toArray⟩, .bool h_v2, .string ⟨h_l2.toArray⟩, .bool h_v3, .string ⟨h_l3.toArray⟩, .slice ba B.length bcap]) = w2) := ⟨_, rfl⟩
  have hcb : At ((w1.drew.drew.alloc (.cells #[.string ⟨#[]⟩, .string ⟨#[]⟩, .int .i64 0, .bool false, .string ⟨#[]⟩, .bool false, .string ⟨#[]⟩, .bool false, .string ⟨#[]⟩, .bool false, .string ⟨#[]⟩, .slice none 0 0] 47)).setRow w1.drew.drew.heap.size #[.string ⟨h_s.toArray⟩, .string ⟨h_p.toArray⟩, .int .i64 h_n, .bool h_v0, .string ⟨h_l0.toArray⟩, .bool h_v1, .string ⟨h_l1.toArray⟩, .bool h_v2, .string ⟨h_l2.toArray⟩, .bool h_v3, .string ⟨h_l3.toArray⟩, .slice ba B.length bcap]) w1.drew.drew.heap.size 0 #[.string ⟨h_s.toArray⟩, .string ⟨h_p.toArray⟩, .int .i64 h_n, .bool h_v0, .string ⟨h_l0.toArray⟩, .bool h_v1, .string ⟨h_l1.toArray⟩, .bool h_v2, .string ⟨h_l2.toArray⟩, .bool h_v3, .string ⟨h_l3.toArray⟩, .slice ba B.length bcap] := Cel.at (Cel.row (heap_alloc_new w1.drew.drew _) _)
  obtain ⟨fb, hfb⟩ : ∃ fb, Hid (w1.drew.drew.heap.size = fb) := ⟨_, rfl⟩
  rw [hw2.out] at hS hl hs hCA hcb
  rw [hfb.out] at hcb
  rw [hw2.out, hfb.out]
  clear hw2 hfb
  have c0 : w2.cell? ⟨fb, 0, none⟩ = some (.string ⟨h_s.toArray⟩) := hcb 0 _ rfl
  have c1 : w2.cell? ⟨fb, 1, none⟩ = some (.string ⟨h_p.toArray⟩) := hcb 1 _ rfl
  have c2 : w2.cell? ⟨fb, 2, none⟩ = some (.int .i64 h_n) := hcb 2 _ rfl
  have c3 : w2.cell? ⟨fb, 3, none⟩ = some (.bool h_v0) := hcb 3 _ rfl
  have c4 : w2.cell? ⟨fb, 4, none⟩ = some (.string ⟨h_l0.toArray⟩) := hcb 4 _ rfl
  have c5 : w2.cell? ⟨fb, 5, none⟩ = some (.bool h_v1) := hcb 5 _ rfl
  have c6 : w2.cell? ⟨fb, 6, none⟩ = some (.string ⟨h_l1.toArray⟩) := hcb 6 _ rfl
  have c7 : w2.cell? ⟨fb, 7, none⟩ = some (.bool h_v2) := hcb 7 _ rfl
  have c8 : w2.cell? ⟨fb, 8, none⟩ = some (.string ⟨h_l2.toArray⟩) := hcb 8 _ rfl
  have c9 : w2.cell? ⟨fb, 9, none⟩ = some (.bool h_v3) := hcb 9 _ rfl
  have c10 : w2.cell? ⟨fb, 10, none⟩ = some (.string ⟨h_l3.toArray⟩) := hcb 10 _ rfl
  have d0 : w2.cell? ⟨w.heap.size, 0, none⟩ = some (.string ⟨a_s.toArray⟩) := hs 0 _ rfl
  have d1 : w2.cell? ⟨w.heap.size, 1, none⟩ = some (.string ⟨a_p.toArray⟩) := hs 1 _ rfl
  have d2 : w2.cell? ⟨w.heap.size, 2, none⟩ = some (.int .i64 a_n) := hs 2 _ rfl
  have d3 : w2.cell? ⟨w.heap.size, 3, none⟩ = some (.bool a_v0) := hs 3 _ rfl
  have d4 : w2.cell? ⟨w.heap.size, 4, none⟩ = some (.string ⟨a_l0.toArray⟩) := hs 4 _ rfl
  have d5 : w2.cell? ⟨w.heap.size, 5, none⟩ = some (.bool a_v1) := hs 5 _ rfl
  have d6 : w2.cell? ⟨w.heap.size, 6, none⟩ = some (.string ⟨a_l1.toArray⟩) := hs 6 _ rfl
  have d7 : w2.cell? ⟨w.heap.size, 7, none⟩ = some (.bool a_v2) := hs 7 _ rfl
  have d8 : w2.cell? ⟨w.heap.size, 8, none⟩ = some (.string ⟨a_l2.toArray⟩) := hs 8 _ rfl
  have d9 : w2.cell? ⟨w.heap.size, 9, none⟩ = some (.bool a_v3) := hs 9 _ rfl
  have d10 : w2.cell? ⟨w.heap.size, 10, none⟩ = some (.string ⟨a_l3.toArray⟩) := hs 10 _ rfl
  have d11 : w2.cell? ⟨w.heap.size, 11, none⟩ = some (.int .i64 (k : Int)) := hs 11 _ rfl
  have d12 : w2.cell? ⟨w.heap.size, 12, none⟩ = some (.slice sa V.length sc) := hs 12 _ rfl
  go_wp2_with fail
  clear c0 c1 c2 c3 c4 c5 c6 c7 c8 c9 c10 d0 d1 d2 d3 d4 d5 d6 d7 d8 d9 d10 d11 d12
  refine (HM.out _ (HE.out.next hS)).mono ?_
  rintro e w3 ⟨v, r, rfl, hb, hm⟩
  have hI : InstI R (B.zip aZ) w3 v (.bool r) 0 := by
    cases X with
    | none => 
      obtain ⟨rfl, rfl⟩ := hm
      exact .inr ⟨rfl, rfl, by rw [hR0.out, instF_none]; rfl⟩
    | some m =>
      obtain ⟨rfl, hrow⟩ := hm
      obtain ⟨h1, h2⟩ := hXB.out m rfl
      exact .inl ⟨m, rfl, hrow, h1, by omega, by rw [hR0.out, List.drop_zero]⟩
  replace hS := hS.trans hb
  replace hl := hl.next hb
  replace hs := hs.next hb
  replace hcb := hcb.next hb
  clear hm hb hXB hR0 HM hCA
  go_wp2_with fail
  go_loopw [6, 7, 8] (fun v r i wr => ∃ j : Nat, j ≤ V.length ∧ i = .int .i64 (j : Int) ∧ Since w3 wr ∧ InstI R (B.zip aZ) wr v r j) (fun _ _ i _ => V.length - (intOf i).toNat)
  case atStart => exact ⟨0, by omega, rfl, Since.refl _, hI⟩
  case round =>
    clear hI
    obtain ⟨j, hj, rfl, hS3, hI⟩ := hrel
    replace hS := hS.trans hS3
    replace hl := hl.next hS3
    replace hs := hs.next hS3
    replace hcb := hcb.next hS3
    have hj9 := HL100.out
    have d12 : wr.cell? ⟨w.heap.size, 12, none⟩ = some (.slice sa V.length sc) := hs 12 _ rfl
    rcases hI with ⟨m, rfl, hrow, hbn, hml, hres⟩ | ⟨rfl, rfl, hres⟩
    · by_cases hlt : j < V.length
      · have hji : (j : Int) < (V.length : Int) := by omega
        have hja : j < aZ.length := by rw [HAS.out]; exact hlt
        have hjb : j < B.length := by rw [← HLEN.out]; exact hlt
        obtain ⟨q, hq, hvq, htq, hfq, hfx⟩ := HC.out j hlt hja
        have hpc : checkA B[j] = 0 := by simpa using List.all_eq_true.1 HBODY.out _ (List.getElem_mem hjb)
        have hzl : j < (B.zip aZ).length := by rw [List.length_zip]; omega
        rw [List.drop_eq_getElem_cons hzl, List.getElem_zip] at hres
        obtain ⟨bv, ov, rfl, hcv, hatv⟩ := (inext HV.out hS).get (by omega)
        have hv0 : wr.cell? ⟨bv, ov + j * 1, none⟩ = some (.int .i64 (V[j])) := hatv j hlt
        rw [Nat.mul_one, hvq] at hv0
        have hVA := At.one hv0
        obtain ⟨bs, os, rfl, hcs, hats⟩ := (snext HT.out hS).get (by omega)
        have hxa := (hats q hq).1
        rw [htq] at hxa
        obtain ⟨bb, ob, rfl, hcbb, hatb⟩ := (anext HB.out hS).get (by omega)
        have hpa := hatb j hjb
        obtain ⟨x, hx⟩ : ∃ x, Hid (x = aZ[j]) := ⟨aZ[j], rfl⟩
        obtain ⟨p, hp⟩ : ∃ p, Hid (p = B[j]) := ⟨B[j], rfl⟩
        rw [← hx.out] at hxa hres hfq hfx
        rw [← hp.out] at hpa hres hpc
        obtain ⟨x_s, x_p, x_n, ⟨x_v0, x_l0⟩, ⟨x_v1, x_l1⟩, ⟨x_v2, x_l2⟩, ⟨x_v3, x_l3⟩⟩ := x
        obtain ⟨p_s, p_p, p_n, ⟨p_v0, p_l0⟩, ⟨p_v1, p_l1⟩, ⟨p_v2, p_l2⟩, ⟨p_v3, p_l3⟩⟩ := p
        have kx : checkA ((x_s, x_p, x_n, (x_v0, x_l0), (x_v1, x_l1), (x_v2, x_l2), (x_v3, x_l3)) : Atm) = 0 := by
          simp only [factB, Bool.and_eq_true, beq_iff_eq] at hfq
          exact hfq.1
        have gx : groundA ((x_s, x_p, x_n, (x_v0, x_l0), (x_v1, x_l1), (x_v2, x_l2), (x_v3, x_l3)) : Atm) = true := by
          simp only [factB, Bool.and_eq_true] at hfq
          exact hfq.2
        replace hxa : At wr bs (os + q * 13) #[.string ⟨x_s.toArray⟩, .string ⟨x_p.toArray⟩, .int .i64 x_n, .bool x_v0, .string ⟨x_l0.toArray⟩, .bool x_v1, .string ⟨x_l1.toArray⟩, .bool x_v2, .string ⟨x_l2.toArray⟩, .bool x_v3, .string ⟨x_l3.toArray⟩] := hxa
        replace hpa : At wr bb (ob + j * 11) #[.string ⟨p_s.toArray⟩, .string ⟨p_p.toArray⟩, .int .i64 p_n, .bool p_v0, .string ⟨p_l0.toArray⟩, .bool p_v1, .string ⟨p_l1.toArray⟩, .bool p_v2, .string ⟨p_l2.toArray⟩, .bool p_v3, .string ⟨p_l3.toArray⟩] := hpa
        have HX := Lib.hid (fun W (hEW : Env W) (hr : RowS W u6 m) => mextend_any p_s p_p p_n p_v0 p_v1 p_v2 p_v3 p_l0 p_l1 p_l2 p_l3 x_s x_p x_n x_v0 x_v1 x_v2 x_v3 x_l0 x_l1 x_l2 x_l3 hpc kx gx u6 m W hr hbn (by omega) hEW hfx)
        have hbd := fun m' (h : extA m ((p_s, p_p, p_n, (p_v0, p_l0), (p_v1, p_l1), (p_v2, p_l2), (p_v3, p_l3)) : Atm) ((x_s, x_p, x_n, (x_v0, x_l0), (x_v1, x_l1), (x_v2, x_l2), (x_v3, x_l3)) : Atm) = some m') => extA_bnd hpc kx gx hbn h
        have HBD := Lib.hid hbd
        obtain ⟨Y, hY⟩ : ∃ Y, Hid (Y = extA m ((p_s, p_p, p_n, (p_v0, p_l0), (p_v1, p_l1), (p_v2, p_l2), (p_v3, p_l3)) : Atm) ((x_s, x_p, x_n, (x_v0, x_l0), (x_v1, x_l1), (x_v2, x_l2), (x_v3, x_l3)) : Atm)) := ⟨_, rfl⟩
        rw [instF] at hres
        try simp only at hres
        rw [← hY.out] at hres
        rw [← hY.out] at HX HBD
        have HRES := Lib.hid hres
        have HQ := Lib.hid hq
        have HML := Lib.hid hml
        clear hatv hats hatb hv0 hcv hcs hcbb hx hp hfq hfx kx gx hpc hbd hY hvq htq hq hml hzl hja hbn
        go_upto_region 8 with (fail)
        clear d12
        cases Y with
        | none =>
          replace hS := hS.trans ((Since.refl wr).drew)
          replace hS3 := hS3.trans ((Since.refl wr).drew)
          replace hl := hl.next ((Since.refl wr).drew)
          replace hs := hs.next ((Since.refl wr).drew)
          replace hcb := hcb.next ((Since.refl wr).drew)
          replace hVA := hVA.next ((Since.refl wr).drew)
          replace hxa := hxa.next ((Since.refl wr).drew)
          replace hpa := hpa.next ((Since.refl wr).drew)
          replace hrow := hrow.next ((Since.refl wr).drew)
          refine hx_begin (S := fun W => (Since w W) ∧ (Since w3 W) ∧ (At W g 0 #[.slice (some ⟨bc, oc, none⟩) L.length lc, .map (some mf), .slice (some ⟨bs, os, none⟩) T.length tc, .map (some mm)]) ∧ (At W w.heap.size 0 #[.string ⟨a_s.toArray⟩, .string ⟨a_p.toArray⟩, .int .i64 a_n, .bool a_v0, .string ⟨a_l0.toArray⟩, .bool a_v1, .string ⟨a_l1.toArray⟩, .bool a_v2, .string ⟨a_l2.toArray⟩, .bool a_v3, .string ⟨a_l3.toArray⟩, .int .i64 (k : Int), .slice (some ⟨bv, ov, none⟩) V.length sc]) ∧ (At W fb 0 #[.string ⟨h_s.toArray⟩, .string ⟨h_p.toArray⟩, .int .i64 h_n, .bool h_v0, .string ⟨h_l0.toArray⟩, .bool h_v1, .string ⟨h_l1.toArray⟩, .bool h_v2, .string ⟨h_l2.toArray⟩, .bool h_v3, .string ⟨h_l3.toArray⟩, .slice (some ⟨bb, ob, none⟩) B.length bcap]) ∧ (At W bv (ov + j) #[.int .i64 (q : Int)]) ∧ (At W bs (os + q * 13) #[.string ⟨x_s.toArray⟩, .string ⟨x_p.toArray⟩, .int .i64 x_n, .bool x_v0, .string ⟨x_l0.toArray⟩, .bool x_v1, .string ⟨x_l1.toArray⟩, .bool x_v2, .string ⟨x_l2.toArray⟩, .bool x_v3, .string ⟨x_l3.toArray⟩]) ∧ (At W bb (ob + j * 11) #[.string ⟨p_s.toArray⟩, .string ⟨p_p.toArray⟩, .int .i64 p_n, .bool p_v0, .string ⟨p_l0.toArray⟩, .bool p_v1, .string ⟨p_l1.toArray⟩, .bool p_v2, .string ⟨p_l2.toArray⟩, .bool p_v3, .string ⟨p_l3.toArray⟩]) ∧ (RowS W u6 m)) (by kernel_rfl) ⟨hS, hS3, hl, hs, hcb, hVA, hxa, hpa, hrow⟩ (by kernel_rfl) (fun _ _ _ _ _ h => h) (fun hns hQ => ?_)
          refine hx_take (i := 0) (oi := _) (v := u6) rfl rfl hns (by kernel_rfl) (by kernel_rfl) hQ (by kernel_rfl) (fun _ _ => by kernel_rfl) ⟨hS, hS3, hl, hs, hcb, hVA, hxa, hpa, hrow⟩ ?_
          refine hx_take (i := 1) (oi := _) (v := .pointer (some ⟨fb, 11, none⟩)) rfl rfl hns (by kernel_rfl) (by kernel_rfl) hQ (by kernel_rfl) (fun _ _ => by kernel_rfl) ⟨hS, hS3, hl, hs, hcb, hVA, hxa, hpa, hrow⟩ ?_
          refine hx_take (i := 2) (oi := _) (v := .slice (some ⟨bb, ob, none⟩) B.length bcap) rfl rfl hns (by kernel_rfl) (by kernel_rfl) hQ (by kernel_rfl) (fun W hW => ld_one rfl (by kernel_rfl) (by kernel_rfl) W (hW.2.2.2.2.1 11 _ rfl)) ⟨hS, hS3, hl, hs, hcb, hVA, hxa, hpa, hrow⟩ ?_
          refine hx_take (i := 3) (oi := _) (v := .int .i64 (j : Int)) rfl rfl hns (by kernel_rfl) (by kernel_rfl) hQ (by kernel_rfl) (fun _ _ => by kernel_rfl) ⟨hS, hS3, hl, hs, hcb, hVA, hxa, hpa, hrow⟩ ?_
          refine hx_take (i := 4) (oi := _) (v := .pointer (some ⟨bb, ob + j * 11, none⟩)) rfl rfl hns (by kernel_rfl) (by kernel_rfl) hQ (by kernel_rfl) (fun W _ => ix_sl (n := B.length) (c := bcap) (K := 11) rfl (by kernel_rfl) (by kernel_rfl) (by kernel_rfl) rfl hjb W) ⟨hS, hS3, hl, hs, hcb, hVA, hxa, hpa, hrow⟩ ?_
          refine hx_take (i := 5) (oi := _) (v := .agg #[.string ⟨p_s.toArray⟩, .string ⟨p_p.toArray⟩, .int .i64 p_n, .bool p_v0, .string ⟨p_l0.toArray⟩, .bool p_v1, .string ⟨p_l1.toArray⟩, .bool p_v2, .string ⟨p_l2.toArray⟩, .bool p_v3, .string ⟨p_l3.toArray⟩]) rfl rfl hns (by kernel_rfl) (by kernel_rfl) hQ (by kernel_rfl) (fun W hW => ld_at rfl (by kernel_rfl) (by kernel_rfl) (by kernel_rfl) W (hW.2.2.2.2.2.2.2.1)) ⟨hS, hS3, hl, hs, hcb, hVA, hxa, hpa, hrow⟩ ?_
          refine hx_take (i := 6) (oi := _) (v := .pointer (some ⟨g, 0, none⟩)) rfl rfl hns (by kernel_rfl) (by kernel_rfl) hQ (by kernel_rfl) (fun _ _ => by kernel_rfl) ⟨hS, hS3, hl, hs, hcb, hVA, hxa, hpa, hrow⟩ ?_
          refine hx_take (i := 7) (oi := _) (v := .pointer (some ⟨g, 0, none⟩)) rfl rfl hns (by kernel_rfl) (by kernel_rfl) hQ (by kernel_rfl) (fun _ _ => by kernel_rfl) ⟨hS, hS3, hl, hs, hcb, hVA, hxa, hpa, hrow⟩ ?_
          refine hx_take (i := 8) (oi := _) (v := .pointer (some ⟨g, 2, none⟩)) rfl rfl hns (by kernel_rfl) (by kernel_rfl) hQ (by kernel_rfl) (fun _ _ => by kernel_rfl) ⟨hS, hS3, hl, hs, hcb, hVA, hxa, hpa, hrow⟩ ?_
          refine hx_take (i := 9) (oi := _) (v := .slice (some ⟨bs, os, none⟩) T.length tc) rfl rfl hns (by kernel_rfl) (by kernel_rfl) hQ (by kernel_rfl) (fun W hW => ld_one rfl (by kernel_rfl) (by kernel_rfl) W (hW.2.2.1 2 _ rfl)) ⟨hS, hS3, hl, hs, hcb, hVA, hxa, hpa, hrow⟩ ?_
          refine hx_take (i := 10) (oi := _) (v := .pointer (some ⟨w.heap.size, 12, none⟩)) rfl rfl hns (by kernel_rfl) (by kernel_rfl) hQ (by kernel_rfl) (fun _ _ => by kernel_rfl) ⟨hS, hS3, hl, hs, hcb, hVA, hxa, hpa, hrow⟩ ?_
          refine hx_take (i := 11) (oi := _) (v := .slice (some ⟨bv, ov, none⟩) V.length sc) rfl rfl hns (by kernel_rfl) (by kernel_rfl) hQ (by kernel_rfl) (fun W hW => ld_one rfl (by kernel_rfl) (by kernel_rfl) W (hW.2.2.2.1 12 _ rfl)) ⟨hS, hS3, hl, hs, hcb, hVA, hxa, hpa, hrow⟩ ?_
          refine hx_take (i := 12) (oi := _) (v := .int .i64 (j : Int)) rfl rfl hns (by kernel_rfl) (by kernel_rfl) hQ (by kernel_rfl) (fun _ _ => by kernel_rfl) ⟨hS, hS3, hl, hs, hcb, hVA, hxa, hpa, hrow⟩ ?_
          refine hx_take (i := 13) (oi := _) (v := .pointer (some ⟨bv, ov + j, none⟩)) rfl rfl hns (by kernel_rfl) (by kernel_rfl) hQ (by kernel_rfl) (fun W _ => ix_sl1 (n := V.length) (c := sc) rfl (by kernel_rfl) (by kernel_rfl) (by kernel_rfl) rfl hlt W) ⟨hS, hS3, hl, hs, hcb, hVA, hxa, hpa, hrow⟩ ?_
          refine hx_take (i := 14) (oi := _) (v := .int .i64 (q : Int)) rfl rfl hns (by kernel_rfl) (by kernel_rfl) hQ (by kernel_rfl) (fun W hW => ld_one rfl (by kernel_rfl) (by kernel_rfl) W (hW.2.2.2.2.2.1 0 _ rfl)) ⟨hS, hS3, hl, hs, hcb, hVA, hxa, hpa, hrow⟩ ?_
          refine hx_take (i := 15) (oi := _) (v := .pointer (some ⟨bs, os + q * 13, none⟩)) rfl rfl hns (by kernel_rfl) (by kernel_rfl) hQ (by kernel_rfl) (fun W _ => ix_sl (n := T.length) (c := tc) (K := 13) rfl (by kernel_rfl) (by kernel_rfl) (by kernel_rfl) rfl HQ.out W) ⟨hS, hS3, hl, hs, hcb, hVA, hxa, hpa, hrow⟩ ?_
          refine hx_take (i := 16) (oi := _) (v := .pointer (some ⟨bs, os + q * 13, none⟩)) rfl rfl hns (by kernel_rfl) (by kernel_rfl) hQ (by kernel_rfl) (fun _ _ => by kernel_rfl) ⟨hS, hS3, hl, hs, hcb, hVA, hxa, hpa, hrow⟩ ?_
          refine hx_take (i := 17) (oi := _) (v := .agg #[.string ⟨x_s.toArray⟩, .string ⟨x_p.toArray⟩, .int .i64 x_n, .bool x_v0, .string ⟨x_l0.toArray⟩, .bool x_v1, .string ⟨x_l1.toArray⟩, .bool x_v2, .string ⟨x_l2.toArray⟩, .bool x_v3, .string ⟨x_l3.toArray⟩]) rfl rfl hns (by kernel_rfl) (by kernel_rfl) hQ (by kernel_rfl) (fun W hW => ld_at rfl (by kernel_rfl) (by kernel_rfl) (by kernel_rfl) W (hW.2.2.2.2.2.2.1)) ⟨hS, hS3, hl, hs, hcb, hVA, hxa, hpa, hrow⟩ ?_
          refine hx_call (i := 18) (oi := _) 52 #[u6, .agg #[.string ⟨p_s.toArray⟩, .string ⟨p_p.toArray⟩, .int .i64 p_n, .bool p_v0, .string ⟨p_l0.toArray⟩, .bool p_v1, .string ⟨p_l1.toArray⟩, .bool p_v2, .string ⟨p_l2.toArray⟩, .bool p_v3, .string ⟨p_l3.toArray⟩], .agg #[.string ⟨x_s.toArray⟩, .string ⟨x_p.toArray⟩, .int .i64 x_n, .bool x_v0, .string ⟨x_l0.toArray⟩, .bool x_v1, .string ⟨x_l1.toArray⟩, .bool x_v2, .string ⟨x_l2.toArray⟩, .bool x_v3, .string ⟨x_l3.toArray⟩]] rfl rfl (by kernel_rfl) (by kernel_rfl) (by kernel_rfl) ((HX.out _ (HE.out.next hS) hrow).mono (fun _ _ h => MatchP.no h)) ?_
          rintro e wx61 ⟨rfl, hb⟩
          replace hS := hS.trans hb
          replace hS3 := hS3.trans hb
          replace hl := hl.next hb
          replace hs := hs.next hb
          replace hcb := hcb.next hb
          replace hVA := hVA.next hb
          replace hxa := hxa.next hb
          replace hpa := hpa.next hb
          replace hrow := hrow.next hb
          clear hb
          refine ⟨_, rfl, ⟨hS, hS3, hl, hs, hcb, hVA, hxa, hpa, hrow⟩, ?_⟩
          refine hx_take (i := 19) (oi := _) (v := .tuple #[.slice none 0 0, .bool false]) rfl rfl hns (by kernel_rfl) (by kernel_rfl) hQ (by kernel_rfl) (fun _ _ => by kernel_rfl) ⟨hS, hS3, hl, hs, hcb, hVA, hxa, hpa, hrow⟩ ?_
          refine hx_take (i := 20) (oi := _) (v := .slice none 0 0) rfl rfl hns (by kernel_rfl) (by kernel_rfl) hQ (by kernel_rfl) (fun _ _ => by kernel_rfl) ⟨hS, hS3, hl, hs, hcb, hVA, hxa, hpa, hrow⟩ ?_
          refine hx_take (i := 21) (oi := _) (v := .bool false) rfl rfl hns (by kernel_rfl) (by kernel_rfl) hQ (by kernel_rfl) (fun _ _ => by kernel_rfl) ⟨hS, hS3, hl, hs, hcb, hVA, hxa, hpa, hrow⟩ ?_
          refine hx_take (i := 22) (oi := _) (v := .slice none 0 0) rfl rfl hns (by kernel_rfl) (by kernel_rfl) hQ (by kernel_rfl) (fun _ _ => by kernel_rfl) ⟨hS, hS3, hl, hs, hcb, hVA, hxa, hpa, hrow⟩ ?_
          refine hx_take (i := 23) (oi := _) (v := .bool false) rfl rfl hns (by kernel_rfl) (by kernel_rfl) hQ (by kernel_rfl) (fun _ _ => by kernel_rfl) ⟨hS, hS3, hl, hs, hcb, hVA, hxa, hpa, hrow⟩ ?_
          refine wpAnyH_done (by kernel_rfl) ?_ _
          clear hns hQ
          simp only [List.set_cons_zero, List.set_cons_succ]
          go_wp2_with fail
          go_roundw
          case rel => exact ⟨j + 1, by omega, by go_num, hS3, .inr ⟨rfl, rfl, by rw [HRES.out, instF_none]; rfl⟩⟩
          case measure => simp [intOf]; omega
        | some m1 =>
          replace hS := hS.trans ((Since.refl wr).drew)
          replace hS3 := hS3.trans ((Since.refl wr).drew)
          replace hl := hl.next ((Since.refl wr).drew)
          replace hs := hs.next ((Since.refl wr).drew)
          replace hcb := hcb.next ((Since.refl wr).drew)
          replace hVA := hVA.next ((Since.refl wr).drew)
          replace hxa := hxa.next ((Since.refl wr).drew)
          replace hpa := hpa.next ((Since.refl wr).drew)
          replace hrow := hrow.next ((Since.refl wr).drew)
          refine hx_begin (S := fun W => (Since w W) ∧ (Since w3 W) ∧ (At W g 0 #[.slice (some ⟨bc, oc, none⟩) L.length lc, .map (some mf), .slice (some ⟨bs, os, none⟩) T.length tc, .map (some mm)]) ∧ (At W w.heap.size 0 #[.string ⟨a_s.toArray⟩, .string ⟨a_p.toArray⟩, .int .i64 a_n, .bool a_v0, .string ⟨a_l0.toArray⟩, .bool a_v1, .string ⟨a_l1.toArray⟩, .bool a_v2, .string ⟨a_l2.toArray⟩, .bool a_v3, .string ⟨a_l3.toArray⟩, .int .i64 (k : Int), .slice (some ⟨bv, ov, none⟩) V.length sc]) ∧ (At W fb 0 #[.string ⟨h_s.toArray⟩, .string ⟨h_p.toArray⟩, .int .i64 h_n, .bool h_v0, .string ⟨h_l0.toArray⟩, .bool h_v1, .string ⟨h_l1.toArray⟩, .bool h_v2, .string ⟨h_l2.toArray⟩, .bool h_v3, .string ⟨h_l3.toArray⟩, .slice (some ⟨bb, ob, none⟩) B.length bcap]) ∧ (At W bv (ov + j) #[.int .i64 (q : Int)]) ∧ (At W bs (os + q * 13) #[.string ⟨x_s.toArray⟩, .string ⟨x_p.toArray⟩, .int .i64 x_n, .bool x_v0, .string ⟨x_l0.toArray⟩, .bool x_v1, .string ⟨x_l1.toArray⟩, .bool x_v2, .string ⟨x_l2.toArray⟩, .bool x_v3, .string ⟨x_l3.toArray⟩]) ∧ (At W bb (ob + j * 11) #[.string ⟨p_s.toArray⟩, .string ⟨p_p.toArray⟩, .int .i64 p_n, .bool p_v0, .string ⟨p_l0.toArray⟩, .bool p_v1, .string ⟨p_l1.toArray⟩, .bool p_v2, .string ⟨p_l2.toArray⟩, .bool p_v3, .string ⟨p_l3.toArray⟩]) ∧ (RowS W u6 m)) (by kernel_rfl) ⟨hS, hS3, hl, hs, hcb, hVA, hxa, hpa, hrow⟩ (by kernel_rfl) (fun _ _ _ _ _ h => h) (fun hns hQ => ?_)
          refine hx_take (i := 0) (oi := _) (v := u6) rfl rfl hns (by kernel_rfl) (by kernel_rfl) hQ (by kernel_rfl) (fun _ _ => by kernel_rfl) ⟨hS, hS3, hl, hs, hcb, hVA, hxa, hpa, hrow⟩ ?_
          refine hx_take (i := 1) (oi := _) (v := .pointer (some ⟨fb, 11, none⟩)) rfl rfl hns (by kernel_rfl) (by kernel_rfl) hQ (by kernel_rfl) (fun _ _ => by kernel_rfl) ⟨hS, hS3, hl, hs, hcb, hVA, hxa, hpa, hrow⟩ ?_
          refine hx_take (i := 2) (oi := _) (v := .slice (some ⟨bb, ob, none⟩) B.length bcap) rfl rfl hns (by kernel_rfl) (by kernel_rfl) hQ (by kernel_rfl) (fun W hW => ld_one rfl (by kernel_rfl) (by kernel_rfl) W (hW.2.2.2.2.1 11 _ rfl)) ⟨hS, hS3, hl, hs, hcb, hVA, hxa, hpa, hrow⟩ ?_
          refine hx_take (i := 3) (oi := _) (v := .int .i64 (j : Int)) rfl rfl hns (by kernel_rfl) (by kernel_rfl) hQ (by kernel_rfl) (fun _ _ => by kernel_rfl) ⟨hS, hS3, hl, hs, hcb, hVA, hxa, hpa, hrow⟩ ?_
          refine hx_take (i := 4) (oi := _) (v := .pointer (some ⟨bb, ob + j * 11, none⟩)) rfl rfl hns (by kernel_rfl) (by kernel_rfl) hQ (by kernel_rfl) (fun W _ => ix_sl (n := B.length) (c := bcap) (K := 11) rfl (by kernel_rfl) (by kernel_rfl) (by kernel_rfl) rfl hjb W) ⟨hS, hS3, hl, hs, hcb, hVA, hxa, hpa, hrow⟩ ?_
          refine hx_take (i := 5) (oi := _) (v := .agg #[.string ⟨p_s.toArray⟩, .string ⟨p_p.toArray⟩, .int .i64 p_n, .bool p_v0, .string ⟨p_l0.toArray⟩, .bool p_v1, .string ⟨p_l1.toArray⟩, .bool p_v2, .string ⟨p_l2.toArray⟩, .bool p_v3, .string ⟨p_l3.toArray⟩]) rfl rfl hns (by kernel_rfl) (by kernel_rfl) hQ (by kernel_rfl) (fun W hW => ld_at rfl (by kernel_rfl) (by kernel_rfl) (by kernel_rfl) W (hW.2.2.2.2.2.2.2.1)) ⟨hS, hS3, hl, hs, hcb, hVA, hxa, hpa, hrow⟩ ?_
          refine hx_take (i := 6) (oi := _) (v := .pointer (some ⟨g, 0, none⟩)) rfl rfl hns (by kernel_rfl) (by kernel_rfl) hQ (by kernel_rfl) (fun _ _ => by kernel_rfl) ⟨hS, hS3, hl, hs, hcb, hVA, hxa, hpa, hrow⟩ ?_
          refine hx_take (i := 7) (oi := _) (v := .pointer (some ⟨g, 0, none⟩)) rfl rfl hns (by kernel_rfl) (by kernel_rfl) hQ (by kernel_rfl) (fun _ _ => by kernel_rfl) ⟨hS, hS3, hl, hs, hcb, hVA, hxa, hpa, hrow⟩ ?_
          refine hx_take (i := 8) (oi := _) (v := .pointer (some ⟨g, 2, none⟩)) rfl rfl hns (by kernel_rfl) (by kernel_rfl) hQ (by kernel_rfl) (fun _ _ => by kernel_rfl) ⟨hS, hS3, hl, hs, hcb, hVA, hxa, hpa, hrow⟩ ?_
          refine hx_take (i := 9) (oi := _) (v := .slice (some ⟨bs, os, none⟩) T.length tc) rfl rfl hns (by kernel_rfl) (by kernel_rfl) hQ (by kernel_rfl) (fun W hW => ld_one rfl (by kernel_rfl) (by kernel_rfl) W (hW.2.2.1 2 _ rfl)) ⟨hS, hS3, hl, hs, hcb, hVA, hxa, hpa, hrow⟩ ?_
          refine hx_take (i := 10) (oi := _) (v := .pointer (some ⟨w.heap.size, 12, none⟩)) rfl rfl hns (by kernel_rfl) (by kernel_rfl) hQ (by kernel_rfl) (fun _ _ => by kernel_rfl) ⟨hS, hS3, hl, hs, hcb, hVA, hxa, hpa, hrow⟩ ?_
          refine hx_take (i := 11) (oi := _) (v := .slice (some ⟨bv, ov, none⟩) V.length sc) rfl rfl hns (by kernel_rfl) (by kernel_rfl) hQ (by kernel_rfl) (fun W hW => ld_one rfl (by kernel_rfl) (by kernel_rfl) W (hW.2.2.2.1 12 _ rfl)) ⟨hS, hS3, hl, hs, hcb, hVA, hxa, hpa, hrow⟩ ?_
          refine hx_take (i := 12) (oi := _) (v := .int .i64 (j : Int)) rfl rfl hns (by kernel_rfl) (by kernel_rfl) hQ (by kernel_rfl) (fun _ _ => by kernel_rfl) ⟨hS, hS3, hl, hs, hcb, hVA, hxa, hpa, hrow⟩ ?_
          refine hx_take (i := 13) (oi := _) (v := .pointer (some ⟨bv, ov + j, none⟩)) rfl rfl hns (by kernel_rfl) (by kernel_rfl) hQ (by kernel_rfl) (fun W _ => ix_sl1 (n := V.length) (c := sc) rfl (by kernel_rfl) (by kernel_rfl) (by kernel_rfl) rfl hlt W) ⟨hS, hS3, hl, hs, hcb, hVA, hxa, hpa, hrow⟩ ?_
          refine hx_take (i := 14) (oi := _) (v := .int .i64 (q : Int)) rfl rfl hns (by kernel_rfl) (by kernel_rfl) hQ (by kernel_rfl) (fun W hW => ld_one rfl (by kernel_rfl) (by kernel_rfl) W (hW.2.2.2.2.2.1 0 _ rfl)) ⟨hS, hS3, hl, hs, hcb, hVA, hxa, hpa, hrow⟩ ?_
          refine hx_take (i := 15) (oi := _) (v := .pointer (some ⟨bs, os + q * 13, none⟩)) rfl rfl hns (by kernel_rfl) (by kernel_rfl) hQ (by kernel_rfl) (fun W _ => ix_sl (n := T.length) (c := tc) (K := 13) rfl (by kernel_rfl) (by kernel_rfl) (by kernel_rfl) rfl HQ.out W) ⟨hS, hS3, hl, hs, hcb, hVA, hxa, hpa, hrow⟩ ?_
          refine hx_take (i := 16) (oi := _) (v := .pointer (some ⟨bs, os + q * 13, none⟩)) rfl rfl hns (by kernel_rfl) (by kernel_rfl) hQ (by kernel_rfl) (fun _ _ => by kernel_rfl) ⟨hS, hS3, hl, hs, hcb, hVA, hxa, hpa, hrow⟩ ?_
          refine hx_take (i := 17) (oi := _) (v := .agg #[.string ⟨x_s.toArray⟩, .string ⟨x_p.toArray⟩, .int .i64 x_n, .bool x_v0, .string ⟨x_l0.toArray⟩, .bool x_v1, .string ⟨x_l1.toArray⟩, .bool x_v2, .string ⟨x_l2.toArray⟩, .bool x_v3, .string ⟨x_l3.toArray⟩]) rfl rfl hns (by kernel_rfl) (by kernel_rfl) hQ (by kernel_rfl) (fun W hW => ld_at rfl (by kernel_rfl) (by kernel_rfl) (by kernel_rfl) W (hW.2.2.2.2.2.2.1)) ⟨hS, hS3, hl, hs, hcb, hVA, hxa, hpa, hrow⟩ ?_
          refine hx_call (i := 18) (oi := _) 52 #[u6, .agg #[.string ⟨p_s.toArray⟩, .string ⟨p_p.toArray⟩, .int .i64 p_n, .bool p_v0, .string ⟨p_l0.toArray⟩, .bool p_v1, .string ⟨p_l1.toArray⟩, .bool p_v2, .string ⟨p_l2.toArray⟩, .bool p_v3, .string ⟨p_l3.toArray⟩], .agg #[.string ⟨x_s.toArray⟩, .string ⟨x_p.toArray⟩, .int .i64 x_n, .bool x_v0, .string ⟨x_l0.toArray⟩, .bool x_v1, .string ⟨x_l1.toArray⟩, .bool x_v2, .string ⟨x_l2.toArray⟩, .bool x_v3, .string ⟨x_l3.toArray⟩]] rfl rfl (by kernel_rfl) (by kernel_rfl) (by kernel_rfl) ((HX.out _ (HE.out.next hS) hrow).mono (fun _ _ h => MatchP.yes h)) ?_
          rintro e wx61 ⟨v9, rfl, hr9, hb⟩
          replace hS := hS.trans hb
          replace hS3 := hS3.trans hb
          replace hl := hl.next hb
          replace hs := hs.next hb
          replace hcb := hcb.next hb
          replace hVA := hVA.next hb
          replace hxa := hxa.next hb
          replace hpa := hpa.next hb
          replace hrow := hrow.next hb
          clear hb
          refine ⟨_, rfl, ⟨hS, hS3, hl, hs, hcb, hVA, hxa, hpa, hrow⟩, ?_⟩
          refine hx_take (i := 19) (oi := _) (v := .tuple #[v9, .bool true]) rfl rfl hns (by kernel_rfl) (by kernel_rfl) hQ (by kernel_rfl) (fun _ _ => by kernel_rfl) ⟨hS, hS3, hl, hs, hcb, hVA, hxa, hpa, hrow⟩ ?_
          refine hx_take (i := 20) (oi := _) (v := v9) rfl rfl hns (by kernel_rfl) (by kernel_rfl) hQ (by kernel_rfl) (fun _ _ => by kernel_rfl) ⟨hS, hS3, hl, hs, hcb, hVA, hxa, hpa, hrow⟩ ?_
          refine hx_take (i := 21) (oi := _) (v := .bool true) rfl rfl hns (by kernel_rfl) (by kernel_rfl) hQ (by kernel_rfl) (fun _ _ => by kernel_rfl) ⟨hS, hS3, hl, hs, hcb, hVA, hxa, hpa, hrow⟩ ?_
          refine hx_take (i := 22) (oi := _) (v := v9) rfl rfl hns (by kernel_rfl) (by kernel_rfl) hQ (by kernel_rfl) (fun _ _ => by kernel_rfl) ⟨hS, hS3, hl, hs, hcb, hVA, hxa, hpa, hrow⟩ ?_
          refine hx_take (i := 23) (oi := _) (v := .bool true) rfl rfl hns (by kernel_rfl) (by kernel_rfl) hQ (by kernel_rfl) (fun _ _ => by kernel_rfl) ⟨hS, hS3, hl, hs, hcb, hVA, hxa, hpa, hrow⟩ ?_
          refine wpAnyH_done (by kernel_rfl) ?_ _
          clear hns hQ
          simp only [List.set_cons_zero, List.set_cons_succ]
          go_wp2_with fail
          go_roundw
          case rel => exact ⟨j + 1, by omega, by go_num, hS3, .inl ⟨m1, rfl, hr9, (HBD.out m1 rfl).1, by have := (HBD.out m1 rfl).2; have := HML.out; omega, HRES.out⟩⟩
          case measure => simp [intOf]; omega
      · have hji : ¬ (j : Int) < (V.length : Int) := by omega
        rw [List.drop_eq_nil_of_le (by rw [List.length_zip, HAS.out]; omega)] at hres
        have hres2 : R = true := hres
        subst hres2
        clear hres hml hbn hrow
        go_wp2_with fail
        go_ret
        exact ⟨rfl, hS⟩
    · subst hres
      go_wp2_with fail
      go_ret
      exact ⟨rfl, hS⟩
end Go.Proofs.YtdlnmkdbjgbimaaGreatDoor
