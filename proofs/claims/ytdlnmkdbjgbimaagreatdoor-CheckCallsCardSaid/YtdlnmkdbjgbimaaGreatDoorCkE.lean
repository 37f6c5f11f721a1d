/- check: step. -/
import Derived.Test.YtdlnmkdbjgbimaaGreatDoorCkC
namespace Go.Proofs.YtdlnmkdbjgbimaaGreatDoor
open Go.RowKit

/-- The atom of the step that is cited. -/
def citeA (T : List Stp) (x : Int) : Atm := ((T[x.toNat]?).map (fun t => t.1)).getD default
def fromB (L : List Cls) (T : List Stp) (i : Nat) (s : Stp) (k : Nat) : Bool :=
  match L[k]? with
  | none => false
  | some cl => decide (s.2.2.length = cl.2.length) && (!(s.2.2.any (badC i)) && instB cl s.1 (s.2.2.map (citeA T)))
/-- Is a step's reason right? -/
def bodyB (L : List Cls) (F : List Atm) (T : List Stp) (i : Nat) (s : Stp) : Bool :=
  if s.2.1 = -1 then decide (s.2.2.length = 0) && decide (s.1 ∈ F) else if s.2.1 < 0 then false else fromB L T i s s.2.1.toNat
/-- Does a step stand? -/
def stepB (L : List Cls) (F : List Atm) (T : List Stp) (i : Nat) (s : Stp) : Bool := !(decide (s.1 ∈ (T.take i).map (fun t => t.1))) && (factB s.1 && bodyB L F T i s)
section
variable {o : Oper} {x y : Operand} {ev : Operand → Value}
theorem neq_int {s t : Int} (ho : o.op = .binOp .neq 3 x y 3) (hx : ev x = .int .i64 s) (hy : ev y = .int .i64 t) (W : World) :
    (execOp ev o).run Tryz.prog W = .ok (.value (.bool (s != t))) W := by
  simp only [execOp, ho]
  go_simp
end
theorem alook_t {o : Oper} {x y : Operand} {ev : Operand → Value} {b n : Nat} {L : List Atm} (a_s a_p : List UInt8) (a_n : Int) (a_v0 a_v1 a_v2 a_v3 : Bool) (a_l0 a_l1 a_l2 a_l3 : List UInt8) (hL : ∀ y ∈ L, FitsN y) (hf : FitsN ((a_s, a_p, a_n, (a_v0, a_l0), (a_v1, a_l1), (a_v2, a_l2), (a_v3, a_l3)) : Atm)) {t : Bool} (ht : decide (((a_s, a_p, a_n, (a_v0, a_l0), (a_v1, a_l1), (a_v2, a_l2), (a_v3, a_l3)) : Atm) ∈ L) = t) (ho : o.op = Op.lookup 50 x y true) (hx : ev x = .map (some b)) (hy : ev y = .agg #[.string ⟨a_s.toArray⟩, .string ⟨a_p.toArray⟩, .int .i64 a_n, .bool a_v0, .string ⟨a_l0.toArray⟩, .bool a_v1, .string ⟨a_l1.toArray⟩, .bool a_v2, .string ⟨a_l2.toArray⟩, .bool a_v3, .string ⟨a_l3.toArray⟩]) (W : World) (h : ASet W b n L) :
    (execOp ev o).run Tryz.prog W = .ok (.value (.tuple #[.agg #[], .bool t])) W := by
  have h1 := alook_run a_s a_p a_n a_v0 a_v1 a_v2 a_v3 a_l0 a_l1 a_l2 a_l3 hL hf ho hx hy W h
  rw [ht] at h1
  exact h1
theorem at_sub {W : World} {g o : Nat} {cs ds : Array Value} (h : At W g o cs) (d n : Nat) (hd : (cs.toList.drop d).take n = ds.toList) : At W g (o + d) ds := by
  intro j u hu
  rw [← Array.getElem?_toList, ← hd, List.getElem?_take] at hu
  split at hu
  · rw [List.getElem?_drop, Array.getElem?_toList] at hu
    have h1 := h (d + j) u hu
    rw [← Nat.add_assoc] at h1
    exact h1
  · cases hu
theorem box_at {W : World} {g : Nat} {x : Atm} {l : List Value} (h : At W g 0 ((atmC x).toList ++ l).toArray) : Box W g x := by
  intro j hj
  have h1 := h j (atmC x)[j] (by rw [List.getElem?_toArray, List.getElem?_append_left (by simpa using hj)]; simp)
  rw [Nat.zero_add] at h1
  exact h1
set_option maxHeartbeats 16000000 in
set_option maxRecDepth 100000 in
theorem kstep_any (i : Nat) (g mf mm : Nat) (va : Option Addr) (lc : Nat) (L : List Cls) (vs : Option Addr) (tc : Nat) (T : List Stp) (F : List Atm) (w0 w : World) (hi : i < T.length)
    (hS : Since w0 w) (hl : LkAt w g mf mm (.slice va L.length lc) (.slice vs T.length tc) F ((T.take i).map (fun t => t.1))) (hv : RRow w0 (.slice va L.length lc) L) (ht : SRow w0 (.slice vs T.length tc) T)
    (hg : g ≠ mm) (hfm : mf ≠ mm) (h0m : w0.heap.size ≤ mm) (hkb : L.length ≤ 100000) (htb : T.length ≤ 2000000) (hcl : ∀ c ∈ L, clauseB c = true ∧ c.2.length ≤ 100) (hfF : ∀ y ∈ F, FitsN y) (hfT : ∀ t ∈ T, FitsN t.1 ∧ t.2.2.length ≤ 100000)
    (hpre : ∀ j (h : j < T.length), j < i → factB (T[j]).1 = true) (hE : Env w0) :
    Calls Tryz.prog 22 #[.pointer (some ⟨g, 0, none⟩), .int .i64 (i : Int)] w fun e w' => e = .returned (.bool (stepB L F T i T[i])) ∧ GB w mm w' ∧ Since w0 w' ∧ LkAt w' g mf mm (.slice va L.length lc) (.slice vs T.length tc) F ((T.take (i + 1)).map (fun t => t.1)) := by
  obtain ⟨hl, ⟨nF, hnF, hf⟩, nM, hnM, hM⟩ := hl
  obtain ⟨M, hMd⟩ : ∃ M, Hid (M = (T.take i).map (fun t => t.1)) := ⟨_, rfl⟩
  have hMl : M.length ≤ 2000000 := by rw [hMd.out, List.length_map, List.length_take]; omega
  have hfM : ∀ y ∈ M, FitsN y := by
    intro y hy
    rw [hMd.out] at hy
    obtain ⟨t, ht, rfl⟩ := List.mem_map.1 hy
    exact (hfT t (List.mem_of_mem_take ht)).1
  rw [← hMd.out] at hM hnM
  have hM2 : Hid ((T.take (i + 1)).map (fun t => t.1) = M ++ [(T[i]).1]) := by
    show _ = _
    rw [hMd.out, List.take_succ_eq_append_getElem hi, List.map_append]; rfl
  rw [hM2.out]
  obtain ⟨R, hR⟩ : ∃ R, Hid (R = stepB L F T i T[i]) := ⟨stepB L F T i T[i], rfl⟩
  rw [← hR.out]
  obtain ⟨s, hs0⟩ : ∃ s, Hid (s = T[i]) := ⟨T[i], rfl⟩
  have hfs := hfT _ (List.getElem_mem hi)
  have HT := Lib.hid ht
  obtain ⟨bs, os, rfl, hcs, hats⟩ := ht.get (by omega)
  obtain ⟨e1, e2, u, e3, e4⟩ := hats i hi
  have hR0 : Hid (R = (!(decide (s.1 ∈ M)) && (factB s.1 && bodyB L F T i s))) := by show _ = _; rw [hR.out, hs0.out, hMd.out]; rfl
  rw [← hs0.out] at e1 e2 e4 hfs ⊢
  obtain ⟨⟨a_s, a_p, a_n, ⟨a_v0, a_l0⟩, ⟨a_v1, a_l1⟩, ⟨a_v2, a_l2⟩, ⟨a_v3, a_l3⟩⟩, c, V⟩ := s
  obtain ⟨sa, sc, rfl⟩ := e4.slice
  simp only at e1 e2 e4 hfs hR0 ⊢
  have hRA : At w0 bs (os + i * 13) #[.string ⟨a_s.toArray⟩, .string ⟨a_p.toArray⟩, .int .i64 a_n, .bool a_v0, .string ⟨a_l0.toArray⟩, .bool a_v1, .string ⟨a_l1.toArray⟩, .bool a_v2, .string ⟨a_l2.toArray⟩, .bool a_v3, .string ⟨a_l3.toArray⟩, .int .i64 c, .slice sa V.length sc] := by
    have q1 := at_push (cs := #[.string ⟨a_s.toArray⟩, .string ⟨a_p.toArray⟩, .int .i64 a_n, .bool a_v0, .string ⟨a_l0.toArray⟩, .bool a_v1, .string ⟨a_l1.toArray⟩, .bool a_v2, .string ⟨a_l2.toArray⟩, .bool a_v3, .string ⟨a_l3.toArray⟩]) e1 e2
    have q2 := at_push q1 e3
    exact q2
  obtain ⟨TW, hTW⟩ : ∃ B, Hid (B = decide (((a_s, a_p, a_n, (a_v0, a_l0), (a_v1, a_l1), (a_v2, a_l2), (a_v3, a_l3)) : Atm) ∈ M)) := ⟨_, rfl⟩
  obtain ⟨CK, hCK⟩ : ∃ B, Hid (B = checkA ((a_s, a_p, a_n, (a_v0, a_l0), (a_v1, a_l1), (a_v2, a_l2), (a_v3, a_l3)) : Atm)) := ⟨_, rfl⟩
  obtain ⟨GR, hGR⟩ : ∃ B, Hid (B = groundA ((a_s, a_p, a_n, (a_v0, a_l0), (a_v1, a_l1), (a_v2, a_l2), (a_v3, a_l3)) : Atm)) := ⟨_, rfl⟩
  have hR1 : Hid (R = (!TW && ((CK == 0 && GR) && bodyB L F T i (((a_s, a_p, a_n, (a_v0, a_l0), (a_v1, a_l1), (a_v2, a_l2), (a_v3, a_l3)) : Atm), c, V)))) := by show _ = _; rw [hTW.out, hCK.out, hGR.out]; exact hR0.out
  have hfx := hfs.1
  have HCK := Lib.hid (fun W hE => check_any a_s a_p a_n a_v0 a_v1 a_v2 a_v3 a_l0 a_l1 a_l2 a_l3 W hfx.1 hE)
  have HGR := Lib.hid (fun W hE => ground_any a_s a_p a_n a_v0 a_v1 a_v2 a_v3 a_l0 a_l1 a_l2 a_l3 W hfx.1 hE)
  rw [← hCK.out] at HCK
  rw [← hGR.out] at HGR
  have hVl := hfs.2
  have HI := Lib.hid hi
  have HPRE := Lib.hid hpre
  have HV := Lib.hid hv
  have HE := Lib.hid hE
  have HROW := Lib.hid e4
  have HCL := Lib.hid hcl
  have HFF := Lib.hid hfF
  have HFT := Lib.hid hfT
  have HFX := Lib.hid hfx
  have HFM := Lib.hid hfM
  have HKB := Lib.hid hkb
  have HNM := Lib.hid (show nM < maxLen by unfold maxLen; omega)
  have HNF := Lib.hid hnF
  have HNM1 := Lib.hid hnM
  have HVL := Lib.hid hVl
  have hTW2 : decide (((a_s, a_p, a_n, (a_v0, a_l0), (a_v1, a_l1), (a_v2, a_l2), (a_v3, a_l3)) : Atm) ∈ M) = TW := hTW.out.symm
  have HTW2 := Lib.hid hTW2
  have hRA2 := hRA.next hS
  have hSb : Since w (w.alloc (.cells #[.int .i64 (i : Int)] 3)) := (Since.refl w).alloc _
  have hbi : At (w.alloc (.cells #[.int .i64 (i : Int)] 3)) w.heap.size 0 #[.int .i64 (i : Int)] := Cel.at (heap_alloc_new w _)
  have hG : GB w mm (w.alloc (.cells #[.int .i64 (i : Int)] 3)) := (GB.refl w mm).next hSb
  have hmlt : mm < w.heap.size := hM.lt
  replace hS := hS.trans hSb
  replace hl := hl.next hSb
  replace hf := hf.next hSb
  replace hM := hM.next hSb
  replace hRA := hRA2.next hSb
  have hgm : g ≠ mm := hg
  clear hSb hRA2 hR hR0 hs0 hfs hfx hats hcs e1 e2 e3 e4 hv ht hcl hfF hfT hpre hE hfM hkb htb hMl hnM hnF hTW hMd hM2 hi hVl hTW2 hg
  go_enter Tryz.func22, Tryz.ntmps22
  go_upto_region 1 with (fail)
  generalize hw1 : w.alloc (.cells #[.int .i64 (i : Int)] 3) = w1 at *
  clear hw1
  have hw1s : w.heap.size ≤ w1.heap.size := World.grownBy.size hG
  replace hS := hS.trans ((Since.refl w1).drew)
  replace hG := hG.next ((Since.refl w1).drew)
  replace hl := hl.next ((Since.refl w1).drew)
  replace hbi := hbi.next ((Since.refl w1).drew)
  replace hf := hf.next ((Since.refl w1).drew)
  replace hM := hM.next ((Since.refl w1).drew)
  replace hRA := hRA.next ((Since.refl w1).drew)
  refine hx_begin (S := fun W => (Since w0 W) ∧ (GB w mm W) ∧ (At W g 0 #[.slice va L.length lc, .map (some mf), .slice (some ⟨bs, os, none⟩) T.length tc, .map (some mm)]) ∧ (At W w.heap.size 0 #[.int .i64 (i : Int)]) ∧ (ASet W mf nF F) ∧ (ASet W mm nM M) ∧ (At W bs (os + i * 13) #[.string ⟨a_s.toArray⟩, .string ⟨a_p.toArray⟩, .int .i64 a_n, .bool a_v0, .string ⟨a_l0.toArray⟩, .bool a_v1, .string ⟨a_l1.toArray⟩, .bool a_v2, .string ⟨a_l2.toArray⟩, .bool a_v3, .string ⟨a_l3.toArray⟩, .int .i64 c, .slice sa V.length sc])) (by kernel_rfl) ⟨hS, hG, hl, hbi, hf, hM, hRA⟩ (by kernel_rfl) (fun _ _ _ _ _ h => h) (fun hns hQ => ?_)
  refine hx_take (i := 0) (oi := _) (v := .pointer (some ⟨g, 0, none⟩)) rfl rfl hns (by kernel_rfl) (by kernel_rfl) hQ (by kernel_rfl) (fun _ _ => by kernel_rfl) ⟨hS, hG, hl, hbi, hf, hM, hRA⟩ ?_
  refine hx_take (i := 1) (oi := _) (v := .pointer (some ⟨g, 0, none⟩)) rfl rfl hns (by kernel_rfl) (by kernel_rfl) hQ (by kernel_rfl) (fun _ _ => by kernel_rfl) ⟨hS, hG, hl, hbi, hf, hM, hRA⟩ ?_
  refine hx_take (i := 2) (oi := _) (v := .pointer (some ⟨g, 2, none⟩)) rfl rfl hns (by kernel_rfl) (by kernel_rfl) hQ (by kernel_rfl) (fun _ _ => by kernel_rfl) ⟨hS, hG, hl, hbi, hf, hM, hRA⟩ ?_
  refine hx_take (i := 3) (oi := _) (v := .slice (some ⟨bs, os, none⟩) T.length tc) rfl rfl hns (by kernel_rfl) (by kernel_rfl) hQ (by kernel_rfl) (fun W hW => ld_one rfl (by kernel_rfl) (by kernel_rfl) W (hW.2.2.1 2 _ rfl)) ⟨hS, hG, hl, hbi, hf, hM, hRA⟩ ?_
  refine hx_take (i := 4) (oi := _) (v := .int .i64 (i : Int)) rfl rfl hns (by kernel_rfl) (by kernel_rfl) hQ (by kernel_rfl) (fun W hW => ld_one rfl (by kernel_rfl) (by kernel_rfl) W (hW.2.2.2.1 0 _ rfl)) ⟨hS, hG, hl, hbi, hf, hM, hRA⟩ ?_
  refine hx_take (i := 5) (oi := _) (v := .pointer (some ⟨bs, os + i * 13, none⟩)) rfl rfl hns (by kernel_rfl) (by kernel_rfl) hQ (by kernel_rfl) (fun W _ => ix_sl (n := T.length) (c := tc) (K := 13) rfl (by kernel_rfl) (by kernel_rfl) (by kernel_rfl) rfl HI.out W) ⟨hS, hG, hl, hbi, hf, hM, hRA⟩ ?_
  refine hx_take (i := 6) (oi := _) (v := .agg #[.string ⟨a_s.toArray⟩, .string ⟨a_p.toArray⟩, .int .i64 a_n, .bool a_v0, .string ⟨a_l0.toArray⟩, .bool a_v1, .string ⟨a_l1.toArray⟩, .bool a_v2, .string ⟨a_l2.toArray⟩, .bool a_v3, .string ⟨a_l3.toArray⟩, .int .i64 c, .slice sa V.length sc]) rfl rfl hns (by kernel_rfl) (by kernel_rfl) hQ (by kernel_rfl) (fun W hW => ld_at rfl (by kernel_rfl) (by kernel_rfl) (by kernel_rfl) W (hW.2.2.2.2.2.2)) ⟨hS, hG, hl, hbi, hf, hM, hRA⟩ ?_
  have hS_ := hS
  have hG_ := hG
  have hl_ := hl
  have hbi_ := hbi
  have hf_ := hf
  have hM_ := hM
  have hRA_ := hRA
  replace hS := hS.trans ((Since.refl w1.drew).alloc (.cells #[.string ⟨#[]⟩, .string ⟨#[]⟩, .int .i64 0, .bool false, .string ⟨#[]⟩, .bool false, .string ⟨#[]⟩, .bool false, .string ⟨#[]⟩, .bool false, .string ⟨#[]⟩, .int .i64 0, .slice none 0 0] 49))
  replace hG := hG.next ((Since.refl w1.drew).alloc (.cells #[.string ⟨#[]⟩, .string ⟨#[]⟩, .int .i64 0, .bool false, .string ⟨#[]⟩, .bool false, .string ⟨#[]⟩, .bool false, .string ⟨#[]⟩, .bool false, .string ⟨#[]⟩, .int .i64 0, .slice none 0 0] 49))
  replace hl := hl.next ((Since.refl w1.drew).alloc (.cells #[.string ⟨#[]⟩, .string ⟨#[]⟩, .int .i64 0, .bool false, .string ⟨#[]⟩, .bool false, .string ⟨#[]⟩, .bool false, .string ⟨#[]⟩, .bool false, .string ⟨#[]⟩, .int .i64 0, .slice none 0 0] 49))
  replace hbi := hbi.next ((Since.refl w1.drew).alloc (.cells #[.string ⟨#[]⟩, .string ⟨#[]⟩, .int .i64 0, .bool false, .string ⟨#[]⟩, .bool false, .string ⟨#[]⟩, .bool false, .string ⟨#[]⟩, .bool false, .string ⟨#[]⟩, .int .i64 0, .slice none 0 0] 49))
  replace hf := hf.next ((Since.refl w1.drew).alloc (.cells #[.string ⟨#[]⟩, .string ⟨#[]⟩, .int .i64 0, .bool false, .string ⟨#[]⟩, .bool false, .string ⟨#[]⟩, .bool false, .string ⟨#[]⟩, .bool false, .string ⟨#[]⟩, .int .i64 0, .slice none 0 0] 49))
  replace hM := hM.next ((Since.refl w1.drew).alloc (.cells #[.string ⟨#[]⟩, .string ⟨#[]⟩, .int .i64 0, .bool false, .string ⟨#[]⟩, .bool false, .string ⟨#[]⟩, .bool false, .string ⟨#[]⟩, .bool false, .string ⟨#[]⟩, .int .i64 0, .slice none 0 0] 49))
  replace hRA := hRA.next ((Since.refl w1.drew).alloc (.cells #[.string ⟨#[]⟩, .string ⟨#[]⟩, .int .i64 0, .bool false, .string ⟨#[]⟩, .bool false, .string ⟨#[]⟩, .bool false, .string ⟨#[]⟩, .bool false, .string ⟨#[]⟩, .int .i64 0, .slice none 0 0] 49))
  refine hx_make (i := 7) (oi := _) (.pointer (some ⟨w1.drew.heap.size, 0, none⟩)) (w1.drew.alloc (.cells #[.string ⟨#[]⟩, .string ⟨#[]⟩, .int .i64 0, .bool false, .string ⟨#[]⟩, .bool false, .string ⟨#[]⟩, .bool false, .string ⟨#[]⟩, .bool false, .string ⟨#[]⟩, .int .i64 0, .slice none 0 0] 49)) rfl rfl (by kernel_rfl) (by kernel_rfl) (by kernel_rfl) ⟨hS, hG, hl, hbi, hf, hM, hRA⟩ ?_
  have hgr : Since w1.drew ((w1.drew.alloc (.cells #[.string ⟨#[]⟩, .string ⟨#[]⟩, .int .i64 0, .bool false, .string ⟨#[]⟩, .bool false, .string ⟨#[]⟩, .bool false, .string ⟨#[]⟩, .bool false, .string ⟨#[]⟩, .int .i64 0, .slice none 0 0] 49)).setRow w1.drew.heap.size #[.string ⟨a_s.toArray⟩, .string ⟨a_p.toArray⟩, .int .i64 a_n, .bool a_v0, .string ⟨a_l0.toArray⟩, .bool a_v1, .string ⟨a_l1.toArray⟩, .bool a_v2, .string ⟨a_l2.toArray⟩, .bool a_v3, .string ⟨a_l3.toArray⟩, .int .i64 c, .slice sa V.length sc]) := since_new _ _ _
  replace hS := hS_.trans hgr
  replace hG := hG_.next hgr
  replace hl := hl_.next hgr
  replace hbi := hbi_.next hgr
  replace hf := hf_.next hgr
  replace hM := hM_.next hgr
  replace hRA := hRA_.next hgr
  clear hS_ hG_ hl_ hbi_ hf_ hM_ hRA_ hgr
  refine hx_store (i := 8) (oi := _) ((w1.drew.alloc (.cells #[.string ⟨#[]⟩, .string ⟨#[]⟩, .int .i64 0, .bool false, .string ⟨#[]⟩, .bool false, .string ⟨#[]⟩, .bool false, .string ⟨#[]⟩, .bool false, .string ⟨#[]⟩, .int .i64 0, .slice none 0 0] 49)).setRow w1.drew.heap.size #[.string ⟨a_s.toArray⟩, .string ⟨a_p.toArray⟩, .int .i64 a_n, .bool a_v0, .string ⟨a_l0.toArray⟩, .bool a_v1, .string ⟨a_l1.toArray⟩, .bool a_v2, .string ⟨a_l2.toArray⟩, .bool a_v3, .string ⟨a_l3.toArray⟩, .int .i64 c, .slice sa V.length sc]) rfl rfl (by kernel_rfl) (by kernel_rfl) (st_row rfl (by kernel_rfl) (by kernel_rfl) (by kernel_rfl) (by kernel_rfl) (by kernel_rfl) _ (heap_alloc_new _ _)) ⟨hS, hG, hl, hbi, hf, hM, hRA⟩ ?_
  refine wpAnyH_done (by kernel_rfl) ?_ _
  clear hns hQ
  simp only [List.set_cons_zero, List.set_cons_succ]
  obtain ⟨w2, hw2⟩ : ∃ w2, Hid (((w1.drew.alloc (.cells #[.string ⟨#[]⟩, .string ⟨#[]⟩, .int .i64 0, .bool false, .string ⟨#[]⟩, .bool false, .string ⟨#[]⟩, .bool false, .string ⟨#[]⟩, .bool false, .string ⟨#[]⟩, .int .i64 0, .slice none 0 0] 49)).setRow w1.drew.heap.size #[.string ⟨a_s.toArray⟩, .string ⟨a_p.toArray⟩, .int .i64 a_n, .bool a_v0, .string ⟨a_l0.toArray⟩, .bool a_v1, .string ⟨a_l1.toArray⟩, .bool a_v2, .string ⟨a_l2.toArray⟩, .bool a_v3, .string ⟨a_l3.toArray⟩, .int .i64 c, .slice sa V.length sc]) = w2) := ⟨_, rfl⟩
  have hs : At ((w1.drew.alloc (.cells #[.string ⟨#[]⟩, .string ⟨#[]⟩, .int .i64 0, .bool false, .string ⟨#[]⟩, .bool false, .string ⟨#[]⟩, .bool false, .string ⟨#[]⟩, .bool false, .string ⟨#[]⟩, .int .i64 0, .slice none 0 0] 49)).setRow w1.drew.heap.size #[.string ⟨a_s.toArray⟩, .string ⟨a_p.toArray⟩, .int .i64 a_n, .bool a_v0, .string ⟨a_l0.toArray⟩, .bool a_v1, .string ⟨a_l1.toArray⟩, .bool a_v2, .string ⟨a_l2.toArray⟩, .bool a_v3, .string ⟨a_l3.toArray⟩, .int .i64 c, .slice sa V.length sc]) w1.drew.heap.size 0 #[.string ⟨a_s.toArray⟩, .string ⟨a_p.toArray⟩, .int .i64 a_n, .bool a_v0, .string ⟨a_l0.toArray⟩, .bool a_v1, .string ⟨a_l1.toArray⟩, .bool a_v2, .string ⟨a_l2.toArray⟩, .bool a_v3, .string ⟨a_l3.toArray⟩, .int .i64 c, .slice sa V.length sc] := Cel.at (Cel.row (heap_alloc_new w1.drew _) _)
  have hfl : w.heap.size ≤ w1.drew.heap.size := hw1s
  obtain ⟨fb, hfb⟩ : ∃ fb, Hid (w1.drew.heap.size = fb) := ⟨_, rfl⟩
  rw [hw2.out] at hS hG hl hbi hf hM hs
  rw [hfb.out] at hs hfl
  rw [hw2.out, hfb.out]
  clear hw2 hfb hRA
  go_upto_region 2 with (fail)
  replace hS := hS.trans ((Since.refl w2).drew)
  replace hG := hG.next ((Since.refl w2).drew)
  replace hl := hl.next ((Since.refl w2).drew)
  replace hbi := hbi.next ((Since.refl w2).drew)
  replace hf := hf.next ((Since.refl w2).drew)
  replace hM := hM.next ((Since.refl w2).drew)
  replace hs := hs.next ((Since.refl w2).drew)
  refine hx_begin (S := fun W => (Since w0 W) ∧ (GB w mm W) ∧ (At W g 0 #[.slice va L.length lc, .map (some mf), .slice (some ⟨bs, os, none⟩) T.length tc, .map (some mm)]) ∧ (At W w.heap.size 0 #[.int .i64 (i : Int)]) ∧ (ASet W mf nF F) ∧ (ASet W mm nM M) ∧ (At W fb 0 #[.string ⟨a_s.toArray⟩, .string ⟨a_p.toArray⟩, .int .i64 a_n, .bool a_v0, .string ⟨a_l0.toArray⟩, .bool a_v1, .string ⟨a_l1.toArray⟩, .bool a_v2, .string ⟨a_l2.toArray⟩, .bool a_v3, .string ⟨a_l3.toArray⟩, .int .i64 c, .slice sa V.length sc])) (by kernel_rfl) ⟨hS, hG, hl, hbi, hf, hM, hs⟩ (by kernel_rfl) (fun _ _ _ _ _ h => h) (fun hns hQ => ?_)
  refine hx_take (i := 0) (oi := _) (v := .pointer (some ⟨g, 0, none⟩)) rfl rfl hns (by kernel_rfl) (by kernel_rfl) hQ (by kernel_rfl) (fun _ _ => by kernel_rfl) ⟨hS, hG, hl, hbi, hf, hM, hs⟩ ?_
  refine hx_take (i := 1) (oi := _) (v := .pointer (some ⟨g, 0, none⟩)) rfl rfl hns (by kernel_rfl) (by kernel_rfl) hQ (by kernel_rfl) (fun _ _ => by kernel_rfl) ⟨hS, hG, hl, hbi, hf, hM, hs⟩ ?_
  refine hx_take (i := 2) (oi := _) (v := .pointer (some ⟨g, 3, none⟩)) rfl rfl hns (by kernel_rfl) (by kernel_rfl) hQ (by kernel_rfl) (fun _ _ => by kernel_rfl) ⟨hS, hG, hl, hbi, hf, hM, hs⟩ ?_
  refine hx_take (i := 3) (oi := _) (v := .map (some mm)) rfl rfl hns (by kernel_rfl) (by kernel_rfl) hQ (by kernel_rfl) (fun W hW => ld_one rfl (by kernel_rfl) (by kernel_rfl) W (hW.2.2.1 3 _ rfl)) ⟨hS, hG, hl, hbi, hf, hM, hs⟩ ?_
  refine hx_take (i := 4) (oi := _) (v := .pointer (some ⟨fb, 0, none⟩)) rfl rfl hns (by kernel_rfl) (by kernel_rfl) hQ (by kernel_rfl) (fun _ _ => by kernel_rfl) ⟨hS, hG, hl, hbi, hf, hM, hs⟩ ?_
  refine hx_take (i := 5) (oi := _) (v := .agg #[.string ⟨a_s.toArray⟩, .string ⟨a_p.toArray⟩, .int .i64 a_n, .bool a_v0, .string ⟨a_l0.toArray⟩, .bool a_v1, .string ⟨a_l1.toArray⟩, .bool a_v2, .string ⟨a_l2.toArray⟩, .bool a_v3, .string ⟨a_l3.toArray⟩]) rfl rfl hns (by kernel_rfl) (by kernel_rfl) hQ (by kernel_rfl) (fun W hW => ld_at rfl (by kernel_rfl) (by kernel_rfl) (by kernel_rfl) W (at_sub (hW.2.2.2.2.2.2) 0 11 rfl)) ⟨hS, hG, hl, hbi, hf, hM, hs⟩ ?_
  refine hx_take (i := 6) (oi := _) (v := .tuple #[.agg #[], .bool TW]) rfl rfl hns (by kernel_rfl) (by kernel_rfl) hQ (by kernel_rfl) (fun W hW => alook_t a_s a_p a_n a_v0 a_v1 a_v2 a_v3 a_l0 a_l1 a_l2 a_l3 HFM.out HFX.out HTW2.out rfl (by kernel_rfl) (by kernel_rfl) W (hW.2.2.2.2.2.1)) ⟨hS, hG, hl, hbi, hf, hM, hs⟩ ?_
  refine hx_take (i := 7) (oi := _) (v := .tuple #[.agg #[], .bool TW]) rfl rfl hns (by kernel_rfl) (by kernel_rfl) hQ (by kernel_rfl) (fun _ _ => by kernel_rfl) ⟨hS, hG, hl, hbi, hf, hM, hs⟩ ?_
  refine hx_take (i := 8) (oi := _) (v := .agg #[]) rfl rfl hns (by kernel_rfl) (by kernel_rfl) hQ (by kernel_rfl) (fun _ _ => by kernel_rfl) ⟨hS, hG, hl, hbi, hf, hM, hs⟩ ?_
  refine hx_take (i := 9) (oi := _) (v := .bool TW) rfl rfl hns (by kernel_rfl) (by kernel_rfl) hQ (by kernel_rfl) (fun _ _ => by kernel_rfl) ⟨hS, hG, hl, hbi, hf, hM, hs⟩ ?_
  have hS_ := hS
  have hG_ := hG
  have hl_ := hl
  have hbi_ := hbi
  have hf_ := hf
  have hM_ := hM
  have hs_ := hs
  replace hS := hS.trans ((Since.refl w2.drew).alloc (.cells #[] 51))
  replace hG := hG.next ((Since.refl w2.drew).alloc (.cells #[] 51))
  replace hl := hl.next ((Since.refl w2.drew).alloc (.cells #[] 51))
  replace hbi := hbi.next ((Since.refl w2.drew).alloc (.cells #[] 51))
  replace hf := hf.next ((Since.refl w2.drew).alloc (.cells #[] 51))
  replace hM := hM.next ((Since.refl w2.drew).alloc (.cells #[] 51))
  replace hs := hs.next ((Since.refl w2.drew).alloc (.cells #[] 51))
  refine hx_make (i := 10) (oi := _) (.pointer (some ⟨w2.drew.heap.size, 0, none⟩)) (w2.drew.alloc (.cells #[] 51)) rfl rfl (by kernel_rfl) (by kernel_rfl) (by kernel_rfl) ⟨hS, hG, hl, hbi, hf, hM, hs⟩ ?_
  have hgr : Since w2.drew ((w2.drew.alloc (.cells #[] 51)).setRow w2.drew.heap.size #[]) := since_new _ _ _
  replace hS := hS_.trans hgr
  replace hG := hG_.next hgr
  replace hl := hl_.next hgr
  replace hbi := hbi_.next hgr
  replace hf := hf_.next hgr
  replace hM := hM_.next hgr
  replace hs := hs_.next hgr
  clear hS_ hG_ hl_ hbi_ hf_ hM_ hs_ hgr
  refine hx_store (i := 11) (oi := _) ((w2.drew.alloc (.cells #[] 51)).setRow w2.drew.heap.size #[]) rfl rfl (by kernel_rfl) (by kernel_rfl) (st_row rfl (by kernel_rfl) (by kernel_rfl) (by kernel_rfl) (by kernel_rfl) (by kernel_rfl) _ (heap_alloc_new _ _)) ⟨hS, hG, hl, hbi, hf, hM, hs⟩ ?_
  refine hx_take (i := 12) (oi := _) (v := .bool TW) rfl rfl hns (by kernel_rfl) (by kernel_rfl) hQ (by kernel_rfl) (fun _ _ => by kernel_rfl) ⟨hS, hG, hl, hbi, hf, hM, hs⟩ ?_
  refine wpAnyH_done (by kernel_rfl) ?_ _
  clear hns hQ
  simp only [List.set_cons_zero, List.set_cons_succ]
  obtain ⟨w3, hw3⟩ : ∃ w3, Hid (((w2.drew.alloc (.cells #[] 51)).setRow w2.drew.heap.size #[]) = w3) := ⟨_, rfl⟩
  rw [hw3.out] at hS hG hl hbi hf hM hs
  rw [hw3.out]
  clear hw3
  go_upto_region 3 with (fail)
  replace hS := hS.trans ((Since.refl w3).drew)
  replace hG := hG.next ((Since.refl w3).drew)
  replace hl := hl.next ((Since.refl w3).drew)
  replace hbi := hbi.next ((Since.refl w3).drew)
  replace hf := hf.next ((Since.refl w3).drew)
  replace hs := hs.next ((Since.refl w3).drew)
  replace hM := hM.next ((Since.refl w3).drew)
  refine hx_begin (S := fun W => (Since w0 W) ∧ (GB w mm W) ∧ (At W g 0 #[.slice va L.length lc, .map (some mf), .slice (some ⟨bs, os, none⟩) T.length tc, .map (some mm)]) ∧ (At W w.heap.size 0 #[.int .i64 (i : Int)]) ∧ (ASet W mf nF F) ∧ (At W fb 0 #[.string ⟨a_s.toArray⟩, .string ⟨a_p.toArray⟩, .int .i64 a_n, .bool a_v0, .string ⟨a_l0.toArray⟩, .bool a_v1, .string ⟨a_l1.toArray⟩, .bool a_v2, .string ⟨a_l2.toArray⟩, .bool a_v3, .string ⟨a_l3.toArray⟩, .int .i64 c, .slice sa V.length sc])) (by kernel_rfl) ⟨hS, hG, hl, hbi, hf, hs⟩ (by kernel_rfl) (fun _ _ _ _ _ h => h) (fun hns hQ => ?_)
  refine hx_take (i := 0) (oi := _) (v := .pointer (some ⟨g, 0, none⟩)) rfl rfl hns (by kernel_rfl) (by kernel_rfl) hQ (by kernel_rfl) (fun _ _ => by kernel_rfl) ⟨hS, hG, hl, hbi, hf, hs⟩ ?_
  refine hx_take (i := 1) (oi := _) (v := .pointer (some ⟨g, 0, none⟩)) rfl rfl hns (by kernel_rfl) (by kernel_rfl) hQ (by kernel_rfl) (fun _ _ => by kernel_rfl) ⟨hS, hG, hl, hbi, hf, hs⟩ ?_
  refine hx_take (i := 2) (oi := _) (v := .pointer (some ⟨g, 3, none⟩)) rfl rfl hns (by kernel_rfl) (by kernel_rfl) hQ (by kernel_rfl) (fun _ _ => by kernel_rfl) ⟨hS, hG, hl, hbi, hf, hs⟩ ?_
  refine hx_take (i := 3) (oi := _) (v := .map (some mm)) rfl rfl hns (by kernel_rfl) (by kernel_rfl) hQ (by kernel_rfl) (fun W hW => ld_one rfl (by kernel_rfl) (by kernel_rfl) W (hW.2.2.1 3 _ rfl)) ⟨hS, hG, hl, hbi, hf, hs⟩ ?_
  refine hx_take (i := 4) (oi := _) (v := .pointer (some ⟨fb, 0, none⟩)) rfl rfl hns (by kernel_rfl) (by kernel_rfl) hQ (by kernel_rfl) (fun _ _ => by kernel_rfl) ⟨hS, hG, hl, hbi, hf, hs⟩ ?_
  refine hx_take (i := 5) (oi := _) (v := .agg #[.string ⟨a_s.toArray⟩, .string ⟨a_p.toArray⟩, .int .i64 a_n, .bool a_v0, .string ⟨a_l0.toArray⟩, .bool a_v1, .string ⟨a_l1.toArray⟩, .bool a_v2, .string ⟨a_l2.toArray⟩, .bool a_v3, .string ⟨a_l3.toArray⟩]) rfl rfl hns (by kernel_rfl) (by kernel_rfl) hQ (by kernel_rfl) (fun W hW => ld_at rfl (by kernel_rfl) (by kernel_rfl) (by kernel_rfl) W (at_sub (hW.2.2.2.2.2) 0 11 rfl)) ⟨hS, hG, hl, hbi, hf, hs⟩ ?_
  refine hx_take (i := 6) (oi := _) (v := .agg #[]) rfl rfl hns (by kernel_rfl) (by kernel_rfl) hQ (by kernel_rfl) (fun _ _ => by kernel_rfl) ⟨hS, hG, hl, hbi, hf, hs⟩ ?_
  obtain ⟨wx61, hrun, hset, hgrow⟩ := aupd a_s a_p a_n a_v0 a_v1 a_v2 a_v3 a_l0 a_l1 a_l2 a_l3 hM HNM.out HFX.out
  replace hS := since_upd hS hgrow h0m
  replace hG := hG.trans hgrow
  replace hl := hl.far hgrow (fun e => by injection e with e; omega)
  replace hbi := hbi.far hgrow (fun e => by injection e with e; omega)
  replace hs := hs.far hgrow (fun e => by injection e with e; omega)
  replace hf := hf.far hgrow (fun e => by injection e with e; omega)
  refine hx_store (i := 7) (oi := _) wx61 rfl rfl (by kernel_rfl) (by kernel_rfl) (upd_run rfl (by kernel_rfl) (by kernel_rfl) (by kernel_rfl) hrun) ⟨hS, hG, hl, hbi, hf, hs⟩ ?_
  refine wpAnyH_done (by kernel_rfl) ?_ _
  clear hns hQ
  simp only [List.set_cons_zero, List.set_cons_succ]
  replace hM := hset
  clear hset hrun hgrow HTW2
  obtain ⟨w4, hw4⟩ : ∃ w4, Hid (wx61 = w4) := ⟨_, rfl⟩
  rw [hw4.out] at hS hG hl hbi hf hM hs
  rw [hw4.out]
  clear hw4
  have a_B : Box w4 fb ((a_s, a_p, a_n, (a_v0, a_l0), (a_v1, a_l1), (a_v2, a_l2), (a_v3, a_l3)) : Atm) := box_at hs
  have hNM2 := HNM1.out
  have hNF := HNF.out
  cases TW
  case true =>
    have hRf : R = false := by rw [hR1.out]; rfl
    subst hRf
    clear hR1 HCK HGR HFX a_B
    go_wp2_with fail
    go_ret
    exact ⟨rfl, hG, hS, hl, ⟨_, hNF, hf⟩, _, by rw [List.length_append, List.length_singleton]; omega, hM⟩
  case false =>
    by_cases hck : CK = 0
    case neg =>
      have hRf : R = false := by rw [hR1.out]; simp [hck]
      subst hRf
      have hq : (CK != 0) = true := by simpa using hck
      clear hR1 HGR HFX
      obtain ⟨a_c0, a_c1, a_c2, a_c3, a_c4, a_c5, a_c6, a_c7, a_c8, a_c9, a_c10⟩ := a_B.all
      clear a_B
      go_wp2_with fail
      refine (HCK.out _ (HE.out.next hS)).mono ?_
      rintro e w5 ⟨rfl, hb⟩
      go_wp2_with fail
      go_ret
      exact ⟨rfl, hG.next hb, hS.trans hb, hl.next hb, ⟨_, hNF, hf.next hb⟩, _, by rw [List.length_append, List.length_singleton]; omega, hM.next hb⟩
    case pos =>
      subst hck
      obtain ⟨a_c0, a_c1, a_c2, a_c3, a_c4, a_c5, a_c6, a_c7, a_c8, a_c9, a_c10⟩ := a_B.all
      cases GR
      case false =>
        have hRf : R = false := by rw [hR1.out]; rfl
        subst hRf
        clear hR1 HFX
        go_wp2_with fail
        refine (HCK.out _ (HE.out.next hS)).mono ?_
        rintro e w5 ⟨rfl, hb⟩
        clear a_c0 a_c1 a_c2 a_c3 a_c4 a_c5 a_c6 a_c7 a_c8 a_c9 a_c10
        replace a_B := a_B.next hb
        obtain ⟨a_c0, a_c1, a_c2, a_c3, a_c4, a_c5, a_c6, a_c7, a_c8, a_c9, a_c10⟩ := a_B.all
        clear a_B
        go_wp2_with fail
        refine (HGR.out _ ((HE.out.next hS).next hb)).mono ?_
        rintro e w6 ⟨rfl, hb2⟩
        go_wp2_with fail
        go_ret
        have hb3 := hb.trans hb2
        exact ⟨rfl, hG.next hb3, hS.trans hb3, hl.next hb3, ⟨_, hNF, hf.next hb3⟩, _, by rw [List.length_append, List.length_singleton]; omega, hM.next hb3⟩
      case true =>
        have hR2 : Hid (R = bodyB L F T i (((a_s, a_p, a_n, (a_v0, a_l0), (a_v1, a_l1), (a_v2, a_l2), (a_v3, a_l3)) : Atm), c, V)) := by show _ = _; rw [hR1.out]; rfl
        clear hR1
        have HMID : Hid (∀ w6, Since w4 w6 → Since w0 w6 ∧ GB w mm w6 ∧ At w6 g 0 #[.slice va L.length lc, .map (some mf), .slice (some ⟨bs, os, none⟩) T.length tc, .map (some mm)] ∧ At w6 w.heap.size 0 #[.int .i64 (i : Int)] ∧ ASet w6 mf nF F ∧ ASet w6 mm (nM + 1) (M ++ [((a_s, a_p, a_n, (a_v0, a_l0), (a_v1, a_l1), (a_v2, a_l2), (a_v3, a_l3)) : Atm)]) ∧ At w6 fb 0 #[.string ⟨a_s.toArray⟩, .string ⟨a_p.toArray⟩, .int .i64 a_n, .bool a_v0, .string ⟨a_l0.toArray⟩, .bool a_v1, .string ⟨a_l1.toArray⟩, .bool a_v2, .string ⟨a_l2.toArray⟩, .bool a_v3, .string ⟨a_l3.toArray⟩, .int .i64 c, .slice sa V.length sc]) := fun w6 h => ⟨hS.trans h, hG.next h, hl.next h, hbi.next h, hf.next h, hM.next h, hs.next h⟩
        have hEw := HE.out.next hS
        clear hl hs hbi hf hM hS hG
        go_wp2_with fail
        refine (HCK.out _ hEw).mono ?_
        rintro e w5 ⟨rfl, hb⟩
        clear a_c0 a_c1 a_c2 a_c3 a_c4 a_c5 a_c6 a_c7 a_c8 a_c9 a_c10
        replace a_B := a_B.next hb
        obtain ⟨a_c0, a_c1, a_c2, a_c3, a_c4, a_c5, a_c6, a_c7, a_c8, a_c9, a_c10⟩ := a_B.all
        clear a_B
        go_wp2_with fail
        refine (HGR.out _ (hEw.next hb)).mono ?_
        rintro e w6 ⟨rfl, hb2⟩
        clear a_c0 a_c1 a_c2 a_c3 a_c4 a_c5 a_c6 a_c7 a_c8 a_c9 a_c10
        obtain ⟨hS, hG, hl, hbi, hf, hM, hs⟩ := HMID.out _ (hb.trans hb2)
        clear hb hb2 HMID hEw HCK HGR
        have d11 : w6.cell? ⟨fb, 11, none⟩ = some (.int .i64 c) := hs 11 _ rfl
        have HFIN : Hid (∀ w9, Since w6 w9 → GB w mm w9 ∧ Since w0 w9 ∧ LkAt w9 g mf mm (.slice va L.length lc) (.slice (some ⟨bs, os, none⟩) T.length tc) F (M ++ [((a_s, a_p, a_n, (a_v0, a_l0), (a_v1, a_l1), (a_v2, a_l2), (a_v3, a_l3)) : Atm)])) :=
          fun w9 h => ⟨hG.next h, hS.trans h, hl.next h, ⟨_, hNF, hf.next h⟩, _, by rw [List.length_append, List.length_singleton]; omega, hM.next h⟩
        clear hNF hNM2 HNM1 HNF hM
        by_cases hc1 : c = -1
        · subst hc1
          go_upto_region 7 with (fail)
          clear d11
          have hB : R = (decide (V.length = 0) && decide (((a_s, a_p, a_n, (a_v0, a_l0), (a_v1, a_l1), (a_v2, a_l2), (a_v3, a_l3)) : Atm) ∈ F)) := by rw [hR2.out]; rfl
          have hS6 : Since w6 w6 := Since.refl _
          by_cases hv0 : V.length = 0
          · have hv1 : ((V.length : Int) == 0) = true := by rw [hv0]; rfl
            have hB1 : decide (((a_s, a_p, a_n, (a_v0, a_l0), (a_v1, a_l1), (a_v2, a_l2), (a_v3, a_l3)) : Atm) ∈ F) = R := by rw [hB, hv0]; rfl
            have HFA := Lib.hid (fun W (h : ASet W mf nF F) => kfact_any a_s a_p a_n a_v0 a_v1 a_v2 a_v3 a_l0 a_l1 a_l2 a_l3 va L.length lc mf nF F W h HFF.out HFX.out)
            rw [hB1] at HFA
            clear hR2 hB hB1 hv0
            replace hS := hS.trans ((Since.refl w6).drew)
            replace hS6 := hS6.trans ((Since.refl w6).drew)
            replace hl := hl.next ((Since.refl w6).drew)
            replace hbi := hbi.next ((Since.refl w6).drew)
            replace hf := hf.next ((Since.refl w6).drew)
            replace hs := hs.next ((Since.refl w6).drew)
            refine hx_begin (S := fun W => (Since w0 W) ∧ (Since w6 W) ∧ (At W g 0 #[.slice va L.length lc, .map (some mf), .slice (some ⟨bs, os, none⟩) T.length tc, .map (some mm)]) ∧ (At W w.heap.size 0 #[.int .i64 (i : Int)]) ∧ (ASet W mf nF F) ∧ (At W fb 0 #[.string ⟨a_s.toArray⟩, .string ⟨a_p.toArray⟩, .int .i64 a_n, .bool a_v0, .string ⟨a_l0.toArray⟩, .bool a_v1, .string ⟨a_l1.toArray⟩, .bool a_v2, .string ⟨a_l2.toArray⟩, .bool a_v3, .string ⟨a_l3.toArray⟩, .int .i64 (-1), .slice sa V.length sc])) (by kernel_rfl) ⟨hS, hS6, hl, hbi, hf, hs⟩ (by kernel_rfl) (fun _ _ _ _ _ h => h) (fun hns hQ => ?_)
            refine hx_take (i := 0) (oi := _) (v := .pointer (some ⟨fb, 12, none⟩)) rfl rfl hns (by kernel_rfl) (by kernel_rfl) hQ (by kernel_rfl) (fun _ _ => by kernel_rfl) ⟨hS, hS6, hl, hbi, hf, hs⟩ ?_
            refine hx_take (i := 1) (oi := _) (v := .slice sa V.length sc) rfl rfl hns (by kernel_rfl) (by kernel_rfl) hQ (by kernel_rfl) (fun W hW => ld_one rfl (by kernel_rfl) (by kernel_rfl) W (hW.2.2.2.2.2 12 _ rfl)) ⟨hS, hS6, hl, hbi, hf, hs⟩ ?_
            refine hx_take (i := 2) (oi := _) (v := .int .i64 (V.length : Int)) rfl rfl hns (by kernel_rfl) (by kernel_rfl) hQ (by kernel_rfl) (fun _ _ => by kernel_rfl) ⟨hS, hS6, hl, hbi, hf, hs⟩ ?_
            refine hx_take (i := 3) (oi := _) (v := .bool true) rfl rfl hns (by kernel_rfl) (by kernel_rfl) hQ (by kernel_rfl) (fun W _ => bin_val (eql_int rfl (by kernel_rfl) (by kernel_rfl) W) hv1) ⟨hS, hS6, hl, hbi, hf, hs⟩ ?_
            refine hx_take (i := 4) (oi := _) (v := .bool true) rfl rfl hns (by kernel_rfl) (by kernel_rfl) hQ (by kernel_rfl) (fun _ _ => by kernel_rfl) ⟨hS, hS6, hl, hbi, hf, hs⟩ ?_
            refine hx_take (i := 5) (oi := _) (v := .pointer (some ⟨g, 0, none⟩)) rfl rfl hns (by kernel_rfl) (by kernel_rfl) hQ (by kernel_rfl) (fun _ _ => by kernel_rfl) ⟨hS, hS6, hl, hbi, hf, hs⟩ ?_
            refine hx_take (i := 6) (oi := _) (v := .pointer (some ⟨g, 0, none⟩)) rfl rfl hns (by kernel_rfl) (by kernel_rfl) hQ (by kernel_rfl) (fun _ _ => by kernel_rfl) ⟨hS, hS6, hl, hbi, hf, hs⟩ ?_
            refine hx_take (i := 7) (oi := _) (v := .pointer (some ⟨g, 0, none⟩)) rfl rfl hns (by kernel_rfl) (by kernel_rfl) hQ (by kernel_rfl) (fun _ _ => by kernel_rfl) ⟨hS, hS6, hl, hbi, hf, hs⟩ ?_
            refine hx_take (i := 8) (oi := _) (v := .agg #[.slice va L.length lc, .map (some mf)]) rfl rfl hns (by kernel_rfl) (by kernel_rfl) hQ (by kernel_rfl) (fun W hW => ld_at rfl (by kernel_rfl) (by kernel_rfl) (by kernel_rfl) W (at_sub (hW.2.2.1) 0 2 rfl)) ⟨hS, hS6, hl, hbi, hf, hs⟩ ?_
            refine hx_take (i := 9) (oi := _) (v := .pointer (some ⟨fb, 0, none⟩)) rfl rfl hns (by kernel_rfl) (by kernel_rfl) hQ (by kernel_rfl) (fun _ _ => by kernel_rfl) ⟨hS, hS6, hl, hbi, hf, hs⟩ ?_
            refine hx_take (i := 10) (oi := _) (v := .agg #[.string ⟨a_s.toArray⟩, .string ⟨a_p.toArray⟩, .int .i64 a_n, .bool a_v0, .string ⟨a_l0.toArray⟩, .bool a_v1, .string ⟨a_l1.toArray⟩, .bool a_v2, .string ⟨a_l2.toArray⟩, .bool a_v3, .string ⟨a_l3.toArray⟩]) rfl rfl hns (by kernel_rfl) (by kernel_rfl) hQ (by kernel_rfl) (fun W hW => ld_at rfl (by kernel_rfl) (by kernel_rfl) (by kernel_rfl) W (at_sub (hW.2.2.2.2.2) 0 11 rfl)) ⟨hS, hS6, hl, hbi, hf, hs⟩ ?_
            refine hx_call (i := 11) (oi := _) 32 #[.agg #[.slice va L.length lc, .map (some mf)], .agg #[.string ⟨a_s.toArray⟩, .string ⟨a_p.toArray⟩, .int .i64 a_n, .bool a_v0, .string ⟨a_l0.toArray⟩, .bool a_v1, .string ⟨a_l1.toArray⟩, .bool a_v2, .string ⟨a_l2.toArray⟩, .bool a_v3, .string ⟨a_l3.toArray⟩]] rfl rfl (by kernel_rfl) (by kernel_rfl) (by kernel_rfl) (HFA.out _ hf) ?_
            rintro e wx61 ⟨rfl, hb⟩
            replace hS := hS.trans hb
            replace hS6 := hS6.trans hb
            replace hl := hl.next hb
            replace hbi := hbi.next hb
            replace hf := hf.next hb
            replace hs := hs.next hb
            clear hb
            refine ⟨_, rfl, ⟨hS, hS6, hl, hbi, hf, hs⟩, ?_⟩
            refine hx_take (i := 12) (oi := _) (v := .bool R) rfl rfl hns (by kernel_rfl) (by kernel_rfl) hQ (by kernel_rfl) (fun _ _ => by kernel_rfl) ⟨hS, hS6, hl, hbi, hf, hs⟩ ?_
            refine hx_take (i := 13) (oi := _) (v := .bool R) rfl rfl hns (by kernel_rfl) (by kernel_rfl) hQ (by kernel_rfl) (fun _ _ => by kernel_rfl) ⟨hS, hS6, hl, hbi, hf, hs⟩ ?_
            refine wpAnyH_done (by kernel_rfl) ?_ _
            clear hns hQ
            simp only [List.set_cons_zero, List.set_cons_succ]
            go_wp2_with fail
            go_ret
            exact ⟨rfl, HFIN.out _ hS6⟩
          · have hv1 : ((V.length : Int) == 0) = false := by simpa using hv0
            have hRf : R = false := by rw [hB, decide_eq_false hv0]; rfl
            clear hR2 hB hv0
            subst hRf
            replace hS := hS.trans ((Since.refl w6).drew)
            replace hS6 := hS6.trans ((Since.refl w6).drew)
            replace hl := hl.next ((Since.refl w6).drew)
            replace hbi := hbi.next ((Since.refl w6).drew)
            replace hf := hf.next ((Since.refl w6).drew)
            replace hs := hs.next ((Since.refl w6).drew)
            refine hx_begin (S := fun W => (Since w0 W) ∧ (Since w6 W) ∧ (At W g 0 #[.slice va L.length lc, .map (some mf), .slice (some ⟨bs, os, none⟩) T.length tc, .map (some mm)]) ∧ (At W w.heap.size 0 #[.int .i64 (i : Int)]) ∧ (ASet W mf nF F) ∧ (At W fb 0 #[.string ⟨a_s.toArray⟩, .string ⟨a_p.toArray⟩, .int .i64 a_n, .bool a_v0, .string ⟨a_l0.toArray⟩, .bool a_v1, .string ⟨a_l1.toArray⟩, .bool a_v2, .string ⟨a_l2.toArray⟩, .bool a_v3, .string ⟨a_l3.toArray⟩, .int .i64 (-1), .slice sa V.length sc])) (by kernel_rfl) ⟨hS, hS6, hl, hbi, hf, hs⟩ (by kernel_rfl) (fun _ _ _ _ _ h => h) (fun hns hQ => ?_)
            refine hx_take (i := 0) (oi := _) (v := .pointer (some ⟨fb, 12, none⟩)) rfl rfl hns (by kernel_rfl) (by kernel_rfl) hQ (by kernel_rfl) (fun _ _ => by kernel_rfl) ⟨hS, hS6, hl, hbi, hf, hs⟩ ?_
            refine hx_take (i := 1) (oi := _) (v := .slice sa V.length sc) rfl rfl hns (by kernel_rfl) (by kernel_rfl) hQ (by kernel_rfl) (fun W hW => ld_one rfl (by kernel_rfl) (by kernel_rfl) W (hW.2.2.2.2.2 12 _ rfl)) ⟨hS, hS6, hl, hbi, hf, hs⟩ ?_
            refine hx_take (i := 2) (oi := _) (v := .int .i64 (V.length : Int)) rfl rfl hns (by kernel_rfl) (by kernel_rfl) hQ (by kernel_rfl) (fun _ _ => by kernel_rfl) ⟨hS, hS6, hl, hbi, hf, hs⟩ ?_
            refine hx_take (i := 3) (oi := _) (v := .bool false) rfl rfl hns (by kernel_rfl) (by kernel_rfl) hQ (by kernel_rfl) (fun W _ => bin_val (eql_int rfl (by kernel_rfl) (by kernel_rfl) W) hv1) ⟨hS, hS6, hl, hbi, hf, hs⟩ ?_
            refine hx_take (i := 4) (oi := _) (v := .bool false) rfl rfl hns (by kernel_rfl) (by kernel_rfl) hQ (by kernel_rfl) (fun _ _ => by kernel_rfl) ⟨hS, hS6, hl, hbi, hf, hs⟩ ?_
            refine hx_off (i := 5) (oi := _) rfl rfl hns (by kernel_rfl) (by kernel_rfl) hQ (by kernel_rfl) ⟨hS, hS6, hl, hbi, hf, hs⟩ ?_
            refine hx_off (i := 6) (oi := _) rfl rfl hns (by kernel_rfl) (by kernel_rfl) hQ (by kernel_rfl) ⟨hS, hS6, hl, hbi, hf, hs⟩ ?_
            refine hx_off (i := 7) (oi := _) rfl rfl hns (by kernel_rfl) (by kernel_rfl) hQ (by kernel_rfl) ⟨hS, hS6, hl, hbi, hf, hs⟩ ?_
            refine hx_off (i := 8) (oi := _) rfl rfl hns (by kernel_rfl) (by kernel_rfl) hQ (by kernel_rfl) ⟨hS, hS6, hl, hbi, hf, hs⟩ ?_
            refine hx_off (i := 9) (oi := _) rfl rfl hns (by kernel_rfl) (by kernel_rfl) hQ (by kernel_rfl) ⟨hS, hS6, hl, hbi, hf, hs⟩ ?_
            refine hx_off (i := 10) (oi := _) rfl rfl hns (by kernel_rfl) (by kernel_rfl) hQ (by kernel_rfl) ⟨hS, hS6, hl, hbi, hf, hs⟩ ?_
            refine hx_off (i := 11) (oi := _) rfl rfl hns (by kernel_rfl) (by kernel_rfl) hQ (by kernel_rfl) ⟨hS, hS6, hl, hbi, hf, hs⟩ ?_
            refine hx_take (i := 12) (oi := _) (v := .bool false) rfl rfl hns (by kernel_rfl) (by kernel_rfl) hQ (by kernel_rfl) (fun _ _ => by kernel_rfl) ⟨hS, hS6, hl, hbi, hf, hs⟩ ?_
            refine hx_take (i := 13) (oi := _) (v := .bool false) rfl rfl hns (by kernel_rfl) (by kernel_rfl) hQ (by kernel_rfl) (fun _ _ => by kernel_rfl) ⟨hS, hS6, hl, hbi, hf, hs⟩ ?_
            refine wpAnyH_done (by kernel_rfl) ?_ _
            clear hns hQ
            simp only [List.set_cons_zero, List.set_cons_succ]
            go_wp2_with fail
            go_ret
            exact ⟨rfl, HFIN.out _ hS6⟩
        · have hc2 : (c == -1) = false := by simpa using hc1
          have hB : R = if c < 0 then false else fromB L T i (((a_s, a_p, a_n, (a_v0, a_l0), (a_v1, a_l1), (a_v2, a_l2), (a_v3, a_l3)) : Atm), c, V) c.toNat := by rw [hR2.out]; unfold bodyB; exact if_neg hc1
          have hS6 : Since w6 w6 := Since.refl _
          clear hR2
          go_upto_region 8 with (fail)
          clear d11
          by_cases hc3 : c < 0
          · have hRf : R = false := by rw [hB, if_pos hc3]
            have hd3 := decide_eq_true hc3
            clear hB
            subst hRf
            replace hS := hS.trans ((Since.refl w6).drew)
            replace hS6 := hS6.trans ((Since.refl w6).drew)
            replace hl := hl.next ((Since.refl w6).drew)
            replace hbi := hbi.next ((Since.refl w6).drew)
            replace hf := hf.next ((Since.refl w6).drew)
            replace hs := hs.next ((Since.refl w6).drew)
            refine hx_begin (S := fun W => (Since w0 W) ∧ (Since w6 W) ∧ (At W g 0 #[.slice va L.length lc, .map (some mf), .slice (some ⟨bs, os, none⟩) T.length tc, .map (some mm)]) ∧ (At W w.heap.size 0 #[.int .i64 (i : Int)]) ∧ (ASet W mf nF F) ∧ (At W fb 0 #[.string ⟨a_s.toArray⟩, .string ⟨a_p.toArray⟩, .int .i64 a_n, .bool a_v0, .string ⟨a_l0.toArray⟩, .bool a_v1, .string ⟨a_l1.toArray⟩, .bool a_v2, .string ⟨a_l2.toArray⟩, .bool a_v3, .string ⟨a_l3.toArray⟩, .int .i64 c, .slice sa V.length sc])) (by kernel_rfl) ⟨hS, hS6, hl, hbi, hf, hs⟩ (by kernel_rfl) (fun _ _ _ _ _ h => h) (fun hns hQ => ?_)
            refine hx_take (i := 0) (oi := _) (v := .pointer (some ⟨fb, 11, none⟩)) rfl rfl hns (by kernel_rfl) (by kernel_rfl) hQ (by kernel_rfl) (fun _ _ => by kernel_rfl) ⟨hS, hS6, hl, hbi, hf, hs⟩ ?_
            refine hx_take (i := 1) (oi := _) (v := .int .i64 c) rfl rfl hns (by kernel_rfl) (by kernel_rfl) hQ (by kernel_rfl) (fun W hW => ld_one rfl (by kernel_rfl) (by kernel_rfl) W (hW.2.2.2.2.2 11 _ rfl)) ⟨hS, hS6, hl, hbi, hf, hs⟩ ?_
            refine hx_take (i := 2) (oi := _) (v := .bool true) rfl rfl hns (by kernel_rfl) (by kernel_rfl) hQ (by kernel_rfl) (fun W _ => bin_val (lss_int rfl (by kernel_rfl) (by kernel_rfl) W) hd3) ⟨hS, hS6, hl, hbi, hf, hs⟩ ?_
            refine hx_take (i := 3) (oi := _) (v := .bool true) rfl rfl hns (by kernel_rfl) (by kernel_rfl) hQ (by kernel_rfl) (fun _ _ => by kernel_rfl) ⟨hS, hS6, hl, hbi, hf, hs⟩ ?_
            refine hx_off (i := 4) (oi := _) rfl rfl hns (by kernel_rfl) (by kernel_rfl) hQ (by kernel_rfl) ⟨hS, hS6, hl, hbi, hf, hs⟩ ?_
            refine hx_off (i := 5) (oi := _) rfl rfl hns (by kernel_rfl) (by kernel_rfl) hQ (by kernel_rfl) ⟨hS, hS6, hl, hbi, hf, hs⟩ ?_
            refine hx_off (i := 6) (oi := _) rfl rfl hns (by kernel_rfl) (by kernel_rfl) hQ (by kernel_rfl) ⟨hS, hS6, hl, hbi, hf, hs⟩ ?_
            refine hx_off (i := 7) (oi := _) rfl rfl hns (by kernel_rfl) (by kernel_rfl) hQ (by kernel_rfl) ⟨hS, hS6, hl, hbi, hf, hs⟩ ?_
            refine hx_off (i := 8) (oi := _) rfl rfl hns (by kernel_rfl) (by kernel_rfl) hQ (by kernel_rfl) ⟨hS, hS6, hl, hbi, hf, hs⟩ ?_
            refine hx_off (i := 9) (oi := _) rfl rfl hns (by kernel_rfl) (by kernel_rfl) hQ (by kernel_rfl) ⟨hS, hS6, hl, hbi, hf, hs⟩ ?_
            refine hx_off (i := 10) (oi := _) rfl rfl hns (by kernel_rfl) (by kernel_rfl) hQ (by kernel_rfl) ⟨hS, hS6, hl, hbi, hf, hs⟩ ?_
            refine hx_off (i := 11) (oi := _) rfl rfl hns (by kernel_rfl) (by kernel_rfl) hQ (by kernel_rfl) ⟨hS, hS6, hl, hbi, hf, hs⟩ ?_
            refine hx_off (i := 12) (oi := _) rfl rfl hns (by kernel_rfl) (by kernel_rfl) hQ (by kernel_rfl) ⟨hS, hS6, hl, hbi, hf, hs⟩ ?_
            refine hx_take (i := 13) (oi := _) (v := .bool true) rfl rfl hns (by kernel_rfl) (by kernel_rfl) hQ (by kernel_rfl) (fun _ _ => by kernel_rfl) ⟨hS, hS6, hl, hbi, hf, hs⟩ ?_
            refine hx_take (i := 14) (oi := _) (v := .bool true) rfl rfl hns (by kernel_rfl) (by kernel_rfl) hQ (by kernel_rfl) (fun _ _ => by kernel_rfl) ⟨hS, hS6, hl, hbi, hf, hs⟩ ?_
            refine hx_off (i := 15) (oi := _) rfl rfl hns (by kernel_rfl) (by kernel_rfl) hQ (by kernel_rfl) ⟨hS, hS6, hl, hbi, hf, hs⟩ ?_
            refine hx_off (i := 16) (oi := _) rfl rfl hns (by kernel_rfl) (by kernel_rfl) hQ (by kernel_rfl) ⟨hS, hS6, hl, hbi, hf, hs⟩ ?_
            refine hx_off (i := 17) (oi := _) rfl rfl hns (by kernel_rfl) (by kernel_rfl) hQ (by kernel_rfl) ⟨hS, hS6, hl, hbi, hf, hs⟩ ?_
            refine hx_off (i := 18) (oi := _) rfl rfl hns (by kernel_rfl) (by kernel_rfl) hQ (by kernel_rfl) ⟨hS, hS6, hl, hbi, hf, hs⟩ ?_
            refine hx_off (i := 19) (oi := _) rfl rfl hns (by kernel_rfl) (by kernel_rfl) hQ (by kernel_rfl) ⟨hS, hS6, hl, hbi, hf, hs⟩ ?_
            refine hx_off (i := 20) (oi := _) rfl rfl hns (by kernel_rfl) (by kernel_rfl) hQ (by kernel_rfl) ⟨hS, hS6, hl, hbi, hf, hs⟩ ?_
            refine hx_off (i := 21) (oi := _) rfl rfl hns (by kernel_rfl) (by kernel_rfl) hQ (by kernel_rfl) ⟨hS, hS6, hl, hbi, hf, hs⟩ ?_
            refine hx_off (i := 22) (oi := _) rfl rfl hns (by kernel_rfl) (by kernel_rfl) hQ (by kernel_rfl) ⟨hS, hS6, hl, hbi, hf, hs⟩ ?_
            refine hx_off (i := 23) (oi := _) rfl rfl hns (by kernel_rfl) (by kernel_rfl) hQ (by kernel_rfl) ⟨hS, hS6, hl, hbi, hf, hs⟩ ?_
            refine hx_off (i := 24) (oi := _) rfl rfl hns (by kernel_rfl) (by kernel_rfl) hQ (by kernel_rfl) ⟨hS, hS6, hl, hbi, hf, hs⟩ ?_
            refine hx_off (i := 25) (oi := _) rfl rfl hns (by kernel_rfl) (by kernel_rfl) hQ (by kernel_rfl) ⟨hS, hS6, hl, hbi, hf, hs⟩ ?_
            refine hx_off (i := 26) (oi := _) rfl rfl hns (by kernel_rfl) (by kernel_rfl) hQ (by kernel_rfl) ⟨hS, hS6, hl, hbi, hf, hs⟩ ?_
            refine hx_off (i := 27) (oi := _) rfl rfl hns (by kernel_rfl) (by kernel_rfl) hQ (by kernel_rfl) ⟨hS, hS6, hl, hbi, hf, hs⟩ ?_
            refine hx_off (i := 28) (oi := _) rfl rfl hns (by kernel_rfl) (by kernel_rfl) hQ (by kernel_rfl) ⟨hS, hS6, hl, hbi, hf, hs⟩ ?_
            refine hx_off (i := 29) (oi := _) rfl rfl hns (by kernel_rfl) (by kernel_rfl) hQ (by kernel_rfl) ⟨hS, hS6, hl, hbi, hf, hs⟩ ?_
            refine hx_take (i := 30) (oi := _) (v := .bool true) rfl rfl hns (by kernel_rfl) (by kernel_rfl) hQ (by kernel_rfl) (fun _ _ => by kernel_rfl) ⟨hS, hS6, hl, hbi, hf, hs⟩ ?_
            refine hx_take (i := 31) (oi := _) (v := .bool true) rfl rfl hns (by kernel_rfl) (by kernel_rfl) hQ (by kernel_rfl) (fun _ _ => by kernel_rfl) ⟨hS, hS6, hl, hbi, hf, hs⟩ ?_
            refine wpAnyH_done (by kernel_rfl) ?_ _
            clear hns hQ
            simp only [List.set_cons_zero, List.set_cons_succ]
            go_wp2_with fail
            go_ret
            exact ⟨rfl, HFIN.out _ hS6⟩
          · rw [if_neg hc3] at hB
            have hd3 := decide_eq_false hc3
            obtain ⟨k, rfl⟩ : ∃ k : Nat, c = (k : Int) := ⟨c.toNat, by omega⟩
            rw [Int.toNat_natCast] at hB
            by_cases hk : k < L.length
            · have hd4 : decide ((L.length : Int) ≤ (k : Int)) = false := decide_eq_false (by omega)
              unfold fromB at hB
              rw [List.getElem?_eq_getElem hk] at hB
              simp only at hB
              obtain ⟨hcl1, hcl2⟩ := HCL.out _ (List.getElem_mem hk)
              have HVW := Lib.hid (rnext HV.out hS)
              have hvw := HVW.out
              obtain ⟨bc, oc, rfl, hcc, hat⟩ := hvw.get (by omega)
              obtain ⟨e1, u, e2, e3⟩ := hat k hk
              obtain ⟨C, hC⟩ : ∃ C, Hid (C = L[k]) := ⟨L[k], rfl⟩
              have hcl1' := hcl1
              have hcl2' := hcl2
              rw [← hC.out] at e1 e3 hB hcl2'
              obtain ⟨⟨h_s, h_p, h_n, ⟨h_v0, h_l0⟩, ⟨h_v1, h_l1⟩, ⟨h_v2, h_l2⟩, ⟨h_v3, h_l3⟩⟩, B⟩ := C
              obtain ⟨ba, bcap, rfl⟩ := e3.slice
              simp only at e1 e2 e3 hcl2'
              have hCA : At w6 bc (oc + k * 12) #[.string ⟨h_s.toArray⟩, .string ⟨h_p.toArray⟩, .int .i64 h_n, .bool h_v0, .string ⟨h_l0.toArray⟩, .bool h_v1, .string ⟨h_l1.toArray⟩, .bool h_v2, .string ⟨h_l2.toArray⟩, .bool h_v3, .string ⟨h_l3.toArray⟩, .slice ba B.length bcap] := at_push (cs := #[.string ⟨h_s.toArray⟩, .string ⟨h_p.toArray⟩, .int .i64 h_n, .bool h_v0, .string ⟨h_l0.toArray⟩, .bool h_v1, .string ⟨h_l1.toArray⟩, .bool h_v2, .string ⟨h_l2.toArray⟩, .bool h_v3, .string ⟨h_l3.toArray⟩]) e1 e2
              have HB := Lib.hid hB
              have HC1 := Lib.hid hcl1
              have HCL2 := Lib.hid hcl2'
              have hlB : (L[k]).2.length = B.length := by rw [← hC.out]
              have HLB := Lib.hid hlB
              clear hvw hat e1 e2 e3 hB hcl1 hcl2 hcl1' hcc hlB
              by_cases hvb : V.length = B.length
              · have hvi : (V.length : Int) = (B.length : Int) := by omega
                have hd5 : ((V.length : Int) != (B.length : Int)) = false := by simpa using hvi
                clear hvi
                have hB1 := HB.out
                rw [decide_eq_true hvb, Bool.true_and] at hB1
                replace hS := hS.trans ((Since.refl w6).drew)
                replace hS6 := hS6.trans ((Since.refl w6).drew)
                replace hl := hl.next ((Since.refl w6).drew)
                replace hbi := hbi.next ((Since.refl w6).drew)
                replace hf := hf.next ((Since.refl w6).drew)
                replace hs := hs.next ((Since.refl w6).drew)
                replace hCA := hCA.next ((Since.refl w6).drew)
                refine hx_begin (S := fun W => (Since w0 W) ∧ (Since w6 W) ∧ (At W g 0 #[.slice (some ⟨bc, oc, none⟩) L.length lc, .map (some mf), .slice (some ⟨bs, os, none⟩) T.length tc, .map (some mm)]) ∧ (At W w.heap.size 0 #[.int .i64 (i : Int)]) ∧ (ASet W mf nF F) ∧ (At W fb 0 #[.string ⟨a_s.toArray⟩, .string ⟨a_p.toArray⟩, .int .i64 a_n, .bool a_v0, .string ⟨a_l0.toArray⟩, .bool a_v1, .string ⟨a_l1.toArray⟩, .bool a_v2, .string ⟨a_l2.toArray⟩, .bool a_v3, .string ⟨a_l3.toArray⟩, .int .i64 (k : Int), .slice sa V.length sc]) ∧ (At W bc (oc + k * 12) #[.string ⟨h_s.toArray⟩, .string ⟨h_p.toArray⟩, .int .i64 h_n, .bool h_v0, .string ⟨h_l0.toArray⟩, .bool h_v1, .string ⟨h_l1.toArray⟩, .bool h_v2, .string ⟨h_l2.toArray⟩, .bool h_v3, .string ⟨h_l3.toArray⟩, .slice ba B.length bcap])) (by kernel_rfl) ⟨hS, hS6, hl, hbi, hf, hs, hCA⟩ (by kernel_rfl) (fun _ _ _ _ _ h => h) (fun hns hQ => ?_)
                refine hx_take (i := 0) (oi := _) (v := .pointer (some ⟨fb, 11, none⟩)) rfl rfl hns (by kernel_rfl) (by kernel_rfl) hQ (by kernel_rfl) (fun _ _ => by kernel_rfl) ⟨hS, hS6, hl, hbi, hf, hs, hCA⟩ ?_
                refine hx_take (i := 1) (oi := _) (v := .int .i64 (k : Int)) rfl rfl hns (by kernel_rfl) (by kernel_rfl) hQ (by kernel_rfl) (fun W hW => ld_one rfl (by kernel_rfl) (by kernel_rfl) W (hW.2.2.2.2.2.1 11 _ rfl)) ⟨hS, hS6, hl, hbi, hf, hs, hCA⟩ ?_
                refine hx_take (i := 2) (oi := _) (v := .bool false) rfl rfl hns (by kernel_rfl) (by kernel_rfl) hQ (by kernel_rfl) (fun W _ => bin_val (lss_int rfl (by kernel_rfl) (by kernel_rfl) W) hd3) ⟨hS, hS6, hl, hbi, hf, hs, hCA⟩ ?_
                refine hx_take (i := 3) (oi := _) (v := .bool false) rfl rfl hns (by kernel_rfl) (by kernel_rfl) hQ (by kernel_rfl) (fun _ _ => by kernel_rfl) ⟨hS, hS6, hl, hbi, hf, hs, hCA⟩ ?_
                refine hx_take (i := 4) (oi := _) (v := .pointer (some ⟨fb, 11, none⟩)) rfl rfl hns (by kernel_rfl) (by kernel_rfl) hQ (by kernel_rfl) (fun _ _ => by kernel_rfl) ⟨hS, hS6, hl, hbi, hf, hs, hCA⟩ ?_
                refine hx_take (i := 5) (oi := _) (v := .int .i64 (k : Int)) rfl rfl hns (by kernel_rfl) (by kernel_rfl) hQ (by kernel_rfl) (fun W hW => ld_one rfl (by kernel_rfl) (by kernel_rfl) W (hW.2.2.2.2.2.1 11 _ rfl)) ⟨hS, hS6, hl, hbi, hf, hs, hCA⟩ ?_
                refine hx_take (i := 6) (oi := _) (v := .pointer (some ⟨g, 0, none⟩)) rfl rfl hns (by kernel_rfl) (by kernel_rfl) hQ (by kernel_rfl) (fun _ _ => by kernel_rfl) ⟨hS, hS6, hl, hbi, hf, hs, hCA⟩ ?_
                refine hx_take (i := 7) (oi := _) (v := .pointer (some ⟨g, 0, none⟩)) rfl rfl hns (by kernel_rfl) (by kernel_rfl) hQ (by kernel_rfl) (fun _ _ => by kernel_rfl) ⟨hS, hS6, hl, hbi, hf, hs, hCA⟩ ?_
                refine hx_take (i := 8) (oi := _) (v := .pointer (some ⟨g, 0, none⟩)) rfl rfl hns (by kernel_rfl) (by kernel_rfl) hQ (by kernel_rfl) (fun _ _ => by kernel_rfl) ⟨hS, hS6, hl, hbi, hf, hs, hCA⟩ ?_
                refine hx_take (i := 9) (oi := _) (v := .pointer (some ⟨g, 0, none⟩)) rfl rfl hns (by kernel_rfl) (by kernel_rfl) hQ (by kernel_rfl) (fun _ _ => by kernel_rfl) ⟨hS, hS6, hl, hbi, hf, hs, hCA⟩ ?_
                refine hx_take (i := 10) (oi := _) (v := .slice (some ⟨bc, oc, none⟩) L.length lc) rfl rfl hns (by kernel_rfl) (by kernel_rfl) hQ (by kernel_rfl) (fun W hW => ld_one rfl (by kernel_rfl) (by kernel_rfl) W (hW.2.2.1 0 _ rfl)) ⟨hS, hS6, hl, hbi, hf, hs, hCA⟩ ?_
                refine hx_take (i := 11) (oi := _) (v := .int .i64 (L.length : Int)) rfl rfl hns (by kernel_rfl) (by kernel_rfl) hQ (by kernel_rfl) (fun _ _ => by kernel_rfl) ⟨hS, hS6, hl, hbi, hf, hs, hCA⟩ ?_
                refine hx_take (i := 12) (oi := _) (v := .bool false) rfl rfl hns (by kernel_rfl) (by kernel_rfl) hQ (by kernel_rfl) (fun W _ => bin_val (geq_int rfl (by kernel_rfl) (by kernel_rfl) W) hd4) ⟨hS, hS6, hl, hbi, hf, hs, hCA⟩ ?_
                refine hx_take (i := 13) (oi := _) (v := .bool false) rfl rfl hns (by kernel_rfl) (by kernel_rfl) hQ (by kernel_rfl) (fun _ _ => by kernel_rfl) ⟨hS, hS6, hl, hbi, hf, hs, hCA⟩ ?_
                refine hx_take (i := 14) (oi := _) (v := .bool false) rfl rfl hns (by kernel_rfl) (by kernel_rfl) hQ (by kernel_rfl) (fun _ _ => by kernel_rfl) ⟨hS, hS6, hl, hbi, hf, hs, hCA⟩ ?_
                refine hx_take (i := 15) (oi := _) (v := .pointer (some ⟨fb, 12, none⟩)) rfl rfl hns (by kernel_rfl) (by kernel_rfl) hQ (by kernel_rfl) (fun _ _ => by kernel_rfl) ⟨hS, hS6, hl, hbi, hf, hs, hCA⟩ ?_
                refine hx_take (i := 16) (oi := _) (v := .slice sa V.length sc) rfl rfl hns (by kernel_rfl) (by kernel_rfl) hQ (by kernel_rfl) (fun W hW => ld_one rfl (by kernel_rfl) (by kernel_rfl) W (hW.2.2.2.2.2.1 12 _ rfl)) ⟨hS, hS6, hl, hbi, hf, hs, hCA⟩ ?_
                refine hx_take (i := 17) (oi := _) (v := .int .i64 (V.length : Int)) rfl rfl hns (by kernel_rfl) (by kernel_rfl) hQ (by kernel_rfl) (fun _ _ => by kernel_rfl) ⟨hS, hS6, hl, hbi, hf, hs, hCA⟩ ?_
                refine hx_take (i := 18) (oi := _) (v := .pointer (some ⟨g, 0, none⟩)) rfl rfl hns (by kernel_rfl) (by kernel_rfl) hQ (by kernel_rfl) (fun _ _ => by kernel_rfl) ⟨hS, hS6, hl, hbi, hf, hs, hCA⟩ ?_
                refine hx_take (i := 19) (oi := _) (v := .pointer (some ⟨g, 0, none⟩)) rfl rfl hns (by kernel_rfl) (by kernel_rfl) hQ (by kernel_rfl) (fun _ _ => by kernel_rfl) ⟨hS, hS6, hl, hbi, hf, hs, hCA⟩ ?_
                refine hx_take (i := 20) (oi := _) (v := .pointer (some ⟨g, 0, none⟩)) rfl rfl hns (by kernel_rfl) (by kernel_rfl) hQ (by kernel_rfl) (fun _ _ => by kernel_rfl) ⟨hS, hS6, hl, hbi, hf, hs, hCA⟩ ?_
                refine hx_take (i := 21) (oi := _) (v := .pointer (some ⟨g, 0, none⟩)) rfl rfl hns (by kernel_rfl) (by kernel_rfl) hQ (by kernel_rfl) (fun _ _ => by kernel_rfl) ⟨hS, hS6, hl, hbi, hf, hs, hCA⟩ ?_
                refine hx_take (i := 22) (oi := _) (v := .slice (some ⟨bc, oc, none⟩) L.length lc) rfl rfl hns (by kernel_rfl) (by kernel_rfl) hQ (by kernel_rfl) (fun W hW => ld_one rfl (by kernel_rfl) (by kernel_rfl) W (hW.2.2.1 0 _ rfl)) ⟨hS, hS6, hl, hbi, hf, hs, hCA⟩ ?_
                refine hx_take (i := 23) (oi := _) (v := .pointer (some ⟨fb, 11, none⟩)) rfl rfl hns (by kernel_rfl) (by kernel_rfl) hQ (by kernel_rfl) (fun _ _ => by kernel_rfl) ⟨hS, hS6, hl, hbi, hf, hs, hCA⟩ ?_
                refine hx_take (i := 24) (oi := _) (v := .int .i64 (k : Int)) rfl rfl hns (by kernel_rfl) (by kernel_rfl) hQ (by kernel_rfl) (fun W hW => ld_one rfl (by kernel_rfl) (by kernel_rfl) W (hW.2.2.2.2.2.1 11 _ rfl)) ⟨hS, hS6, hl, hbi, hf, hs, hCA⟩ ?_
                refine hx_take (i := 25) (oi := _) (v := .pointer (some ⟨bc, oc + k * 12, none⟩)) rfl rfl hns (by kernel_rfl) (by kernel_rfl) hQ (by kernel_rfl) (fun W _ => ix_sl (n := L.length) (c := lc) (K := 12) rfl (by kernel_rfl) (by kernel_rfl) (by kernel_rfl) rfl hk W) ⟨hS, hS6, hl, hbi, hf, hs, hCA⟩ ?_
                refine hx_take (i := 26) (oi := _) (v := .pointer (some ⟨bc, oc + k * 12 + 11, none⟩)) rfl rfl hns (by kernel_rfl) (by kernel_rfl) hQ (by kernel_rfl) (fun _ _ => by kernel_rfl) ⟨hS, hS6, hl, hbi, hf, hs, hCA⟩ ?_
                refine hx_take (i := 27) (oi := _) (v := .slice ba B.length bcap) rfl rfl hns (by kernel_rfl) (by kernel_rfl) hQ (by kernel_rfl) (fun W hW => ld_one rfl (by kernel_rfl) (by kernel_rfl) W (hW.2.2.2.2.2.2 11 _ rfl)) ⟨hS, hS6, hl, hbi, hf, hs, hCA⟩ ?_
                refine hx_take (i := 28) (oi := _) (v := .int .i64 (B.length : Int)) rfl rfl hns (by kernel_rfl) (by kernel_rfl) hQ (by kernel_rfl) (fun _ _ => by kernel_rfl) ⟨hS, hS6, hl, hbi, hf, hs, hCA⟩ ?_
                refine hx_take (i := 29) (oi := _) (v := .bool false) rfl rfl hns (by kernel_rfl) (by kernel_rfl) hQ (by kernel_rfl) (fun W _ => bin_val (neq_int rfl (by kernel_rfl) (by kernel_rfl) W) hd5) ⟨hS, hS6, hl, hbi, hf, hs, hCA⟩ ?_
                refine hx_take (i := 30) (oi := _) (v := .bool false) rfl rfl hns (by kernel_rfl) (by kernel_rfl) hQ (by kernel_rfl) (fun _ _ => by kernel_rfl) ⟨hS, hS6, hl, hbi, hf, hs, hCA⟩ ?_
                refine hx_take (i := 31) (oi := _) (v := .bool false) rfl rfl hns (by kernel_rfl) (by kernel_rfl) hQ (by kernel_rfl) (fun _ _ => by kernel_rfl) ⟨hS, hS6, hl, hbi, hf, hs, hCA⟩ ?_
                refine wpAnyH_done (by kernel_rfl) ?_ _
                clear hns hQ
                simp only [List.set_cons_zero, List.set_cons_succ]
                have hS9 := hS
                have d12 : w6.drew.cell? ⟨fb, 12, none⟩ = some (.slice sa V.length sc) := hs 12 _ rfl
                have HHC := Lib.hid (has_cites (.slice sa V.length sc) V (i : Int) w.heap.size w6.drew (inext HROW.out hS) (hbi 0 _ rfl) (by have := HVL.out; omega))
                obtain ⟨BD, hBD⟩ : ∃ BD, Hid (BD = V.any (badC (i : Int))) := ⟨_, rfl⟩
                rw [← hBD.out] at HHC
                rw [← hBD.out] at hB1
                cases BD
                · have hB2 : R = instB (((h_s, h_p, h_n, (h_v0, h_l0), (h_v1, h_l1), (h_v2, h_l2), (h_v3, h_l3)) : Atm), B) ((a_s, a_p, a_n, (a_v0, a_l0), (a_v1, a_l1), (a_v2, a_l2), (a_v3, a_l3)) : Atm) (V.map (citeA T)) := hB1
                  rw [hC.out] at hB2
                  have hcites : ∀ j (h : j < V.length) (h2 : j < (V.map (citeA T)).length), ∃ (q : Nat) (hq : q < T.length), V[j] = (q : Int) ∧ (T[q]).1 = (V.map (citeA T))[j] ∧ factB ((V.map (citeA T))[j]) = true ∧ FitsA ((V.map (citeA T))[j]) := by
                    intro j h h2
                    have h3 : badC (i : Int) V[j] = false := by
                      cases hh : badC (i : Int) V[j]
                      · rfl
                      · have h4 : V.any (badC (i : Int)) = true := List.any_eq_true.2 ⟨_, List.getElem_mem h, hh⟩
                        rw [← hBD.out] at h4; cases h4
                    unfold badC at h3
                    rw [Bool.or_eq_false_iff, decide_eq_false_iff_not, decide_eq_false_iff_not] at h3
                    have hi := HI.out
                    have hq : (V[j]).toNat < T.length := by omega
                    have e1 : (V.map (citeA T))[j] = (T[(V[j]).toNat]).1 := by
                      rw [List.getElem_map]
                      unfold citeA
                      rw [List.getElem?_eq_getElem hq]
                      rfl
                    rw [e1]
                    exact ⟨(V[j]).toNat, hq, by omega, rfl, HPRE.out _ hq (by omega), (HFT.out _ (List.getElem_mem hq)).1.1⟩
                  have hfa : factB ((a_s, a_p, a_n, (a_v0, a_l0), (a_v1, a_l1), (a_v2, a_l2), (a_v3, a_l3)) : Atm) = true := by unfold factB; rw [← hCK.out, ← hGR.out]; rfl
                  have HIN := Lib.hid (kinst_any a_s a_p a_n a_v0 a_v1 a_v2 a_v3 a_l0 a_l1 a_l2 a_l3 k sa sc V g mf mm (some ⟨bc, oc, none⟩) lc L (some ⟨bs, os, none⟩) tc T (V.map (citeA T)) w6.drew hl (rnext HV.out hS) (snext HT.out hS) (inext HROW.out hS) hk HKB.out (hvb.trans HLB.out.symm) (by have := HCL2.out; omega) (List.length_map _) hcites hfa HFX.out.1 HC1.out (HE.out.next hS))
                  rw [← hB2] at HIN
                  clear hB1 hB2 hcites hfa hvb
                  have d0 : w6.drew.cell? ⟨fb, 0, none⟩ = some (.string ⟨a_s.toArray⟩) := hs 0 _ rfl
                  have d1 : w6.drew.cell? ⟨fb, 1, none⟩ = some (.string ⟨a_p.toArray⟩) := hs 1 _ rfl
                  have d2 : w6.drew.cell? ⟨fb, 2, none⟩ = some (.int .i64 a_n) := hs 2 _ rfl
                  have d3 : w6.drew.cell? ⟨fb, 3, none⟩ = some (.bool a_v0) := hs 3 _ rfl
                  have d4 : w6.drew.cell? ⟨fb, 4, none⟩ = some (.string ⟨a_l0.toArray⟩) := hs 4 _ rfl
                  have d5 : w6.drew.cell? ⟨fb, 5, none⟩ = some (.bool a_v1) := hs 5 _ rfl
                  have d6 : w6.drew.cell? ⟨fb, 6, none⟩ = some (.string ⟨a_l1.toArray⟩) := hs 6 _ rfl
                  have d7 : w6.drew.cell? ⟨fb, 7, none⟩ = some (.bool a_v2) := hs 7 _ rfl
                  have d8 : w6.drew.cell? ⟨fb, 8, none⟩ = some (.string ⟨a_l2.toArray⟩) := hs 8 _ rfl
                  have d9 : w6.drew.cell? ⟨fb, 9, none⟩ = some (.bool a_v3) := hs 9 _ rfl
                  have d10 : w6.drew.cell? ⟨fb, 10, none⟩ = some (.string ⟨a_l3.toArray⟩) := hs 10 _ rfl
                  have d11 : w6.drew.cell? ⟨fb, 11, none⟩ = some (.int .i64 (k : Int)) := hs 11 _ rfl
                  go_wp2_with fail
                  refine HHC.out.mono ?_
                  rintro e w7 ⟨rfl, rfl⟩
                  go_wp2_with fail
                  refine HIN.out.mono ?_
                  rintro e w8 ⟨rfl, hb⟩
                  go_wp2_with fail
                  go_ret
                  exact ⟨rfl, HFIN.out _ (hS6.trans hb)⟩
                · have hRf : R = false := hB1
                  clear hB1 hvb
                  subst hRf
                  go_wp2_with fail
                  refine HHC.out.mono ?_
                  rintro e w7 ⟨rfl, rfl⟩
                  go_wp2_with fail
                  go_ret
                  exact ⟨rfl, HFIN.out _ hS6⟩
              · have hvi : ¬ (V.length : Int) = (B.length : Int) := by omega
                have hd5 : ((V.length : Int) != (B.length : Int)) = true := by simpa using hvi
                clear hvi
                have hRf : R = false := by rw [HB.out, decide_eq_false hvb]; rfl
                clear HB hvb
                subst hRf
                replace hS := hS.trans ((Since.refl w6).drew)
                replace hS6 := hS6.trans ((Since.refl w6).drew)
                replace hl := hl.next ((Since.refl w6).drew)
                replace hbi := hbi.next ((Since.refl w6).drew)
                replace hf := hf.next ((Since.refl w6).drew)
                replace hs := hs.next ((Since.refl w6).drew)
                replace hCA := hCA.next ((Since.refl w6).drew)
                refine hx_begin (S := fun W => (Since w0 W) ∧ (Since w6 W) ∧ (At W g 0 #[.slice (some ⟨bc, oc, none⟩) L.length lc, .map (some mf), .slice (some ⟨bs, os, none⟩) T.length tc, .map (some mm)]) ∧ (At W w.heap.size 0 #[.int .i64 (i : Int)]) ∧ (ASet W mf nF F) ∧ (At W fb 0 #[.string ⟨a_s.toArray⟩, .string ⟨a_p.toArray⟩, .int .i64 a_n, .bool a_v0, .string ⟨a_l0.toArray⟩, .bool a_v1, .string ⟨a_l1.toArray⟩, .bool a_v2, .string ⟨a_l2.toArray⟩, .bool a_v3, .string ⟨a_l3.toArray⟩, .int .i64 (k : Int), .slice sa V.length sc]) ∧ (At W bc (oc + k * 12) #[.string ⟨h_s.toArray⟩, .string ⟨h_p.toArray⟩, .int .i64 h_n, .bool h_v0, .string ⟨h_l0.toArray⟩, .bool h_v1, .string ⟨h_l1.toArray⟩, .bool h_v2, .string ⟨h_l2.toArray⟩, .bool h_v3, .string ⟨h_l3.toArray⟩, .slice ba B.length bcap])) (by kernel_rfl) ⟨hS, hS6, hl, hbi, hf, hs, hCA⟩ (by kernel_rfl) (fun _ _ _ _ _ h => h) (fun hns hQ => ?_)
                refine hx_take (i := 0) (oi := _) (v := .pointer (some ⟨fb, 11, none⟩)) rfl rfl hns (by kernel_rfl) (by kernel_rfl) hQ (by kernel_rfl) (fun _ _ => by kernel_rfl) ⟨hS, hS6, hl, hbi, hf, hs, hCA⟩ ?_
                refine hx_take (i := 1) (oi := _) (v := .int .i64 (k : Int)) rfl rfl hns (by kernel_rfl) (by kernel_rfl) hQ (by kernel_rfl) (fun W hW => ld_one rfl (by kernel_rfl) (by kernel_rfl) W (hW.2.2.2.2.2.1 11 _ rfl)) ⟨hS, hS6, hl, hbi, hf, hs, hCA⟩ ?_
                refine hx_take (i := 2) (oi := _) (v := .bool false) rfl rfl hns (by kernel_rfl) (by kernel_rfl) hQ (by kernel_rfl) (fun W _ => bin_val (lss_int rfl (by kernel_rfl) (by kernel_rfl) W) hd3) ⟨hS, hS6, hl, hbi, hf, hs, hCA⟩ ?_
                refine hx_take (i := 3) (oi := _) (v := .bool false) rfl rfl hns (by kernel_rfl) (by kernel_rfl) hQ (by kernel_rfl) (fun _ _ => by kernel_rfl) ⟨hS, hS6, hl, hbi, hf, hs, hCA⟩ ?_
                refine hx_take (i := 4) (oi := _) (v := .pointer (some ⟨fb, 11, none⟩)) rfl rfl hns (by kernel_rfl) (by kernel_rfl) hQ (by kernel_rfl) (fun _ _ => by kernel_rfl) ⟨hS, hS6, hl, hbi, hf, hs, hCA⟩ ?_
                refine hx_take (i := 5) (oi := _) (v := .int .i64 (k : Int)) rfl rfl hns (by kernel_rfl) (by kernel_rfl) hQ (by kernel_rfl) (fun W hW => ld_one rfl (by kernel_rfl) (by kernel_rfl) W (hW.2.2.2.2.2.1 11 _ rfl)) ⟨hS, hS6, hl, hbi, hf, hs, hCA⟩ ?_
                refine hx_take (i := 6) (oi := _) (v := .pointer (some ⟨g, 0, none⟩)) rfl rfl hns (by kernel_rfl) (by kernel_rfl) hQ (by kernel_rfl) (fun _ _ => by kernel_rfl) ⟨hS, hS6, hl, hbi, hf, hs, hCA⟩ ?_
                refine hx_take (i := 7) (oi := _) (v := .pointer (some ⟨g, 0, none⟩)) rfl rfl hns (by kernel_rfl) (by kernel_rfl) hQ (by kernel_rfl) (fun _ _ => by kernel_rfl) ⟨hS, hS6, hl, hbi, hf, hs, hCA⟩ ?_
                refine hx_take (i := 8) (oi := _) (v := .pointer (some ⟨g, 0, none⟩)) rfl rfl hns (by kernel_rfl) (by kernel_rfl) hQ (by kernel_rfl) (fun _ _ => by kernel_rfl) ⟨hS, hS6, hl, hbi, hf, hs, hCA⟩ ?_
                refine hx_take (i := 9) (oi := _) (v := .pointer (some ⟨g, 0, none⟩)) rfl rfl hns (by kernel_rfl) (by kernel_rfl) hQ (by kernel_rfl) (fun _ _ => by kernel_rfl) ⟨hS, hS6, hl, hbi, hf, hs, hCA⟩ ?_
                refine hx_take (i := 10) (oi := _) (v := .slice (some ⟨bc, oc, none⟩) L.length lc) rfl rfl hns (by kernel_rfl) (by kernel_rfl) hQ (by kernel_rfl) (fun W hW => ld_one rfl (by kernel_rfl) (by kernel_rfl) W (hW.2.2.1 0 _ rfl)) ⟨hS, hS6, hl, hbi, hf, hs, hCA⟩ ?_
                refine hx_take (i := 11) (oi := _) (v := .int .i64 (L.length : Int)) rfl rfl hns (by kernel_rfl) (by kernel_rfl) hQ (by kernel_rfl) (fun _ _ => by kernel_rfl) ⟨hS, hS6, hl, hbi, hf, hs, hCA⟩ ?_
                refine hx_take (i := 12) (oi := _) (v := .bool false) rfl rfl hns (by kernel_rfl) (by kernel_rfl) hQ (by kernel_rfl) (fun W _ => bin_val (geq_int rfl (by kernel_rfl) (by kernel_rfl) W) hd4) ⟨hS, hS6, hl, hbi, hf, hs, hCA⟩ ?_
                refine hx_take (i := 13) (oi := _) (v := .bool false) rfl rfl hns (by kernel_rfl) (by kernel_rfl) hQ (by kernel_rfl) (fun _ _ => by kernel_rfl) ⟨hS, hS6, hl, hbi, hf, hs, hCA⟩ ?_
                refine hx_take (i := 14) (oi := _) (v := .bool false) rfl rfl hns (by kernel_rfl) (by kernel_rfl) hQ (by kernel_rfl) (fun _ _ => by kernel_rfl) ⟨hS, hS6, hl, hbi, hf, hs, hCA⟩ ?_
                refine hx_take (i := 15) (oi := _) (v := .pointer (some ⟨fb, 12, none⟩)) rfl rfl hns (by kernel_rfl) (by kernel_rfl) hQ (by kernel_rfl) (fun _ _ => by kernel_rfl) ⟨hS, hS6, hl, hbi, hf, hs, hCA⟩ ?_
                refine hx_take (i := 16) (oi := _) (v := .slice sa V.length sc) rfl rfl hns (by kernel_rfl) (by kernel_rfl) hQ (by kernel_rfl) (fun W hW => ld_one rfl (by kernel_rfl) (by kernel_rfl) W (hW.2.2.2.2.2.1 12 _ rfl)) ⟨hS, hS6, hl, hbi, hf, hs, hCA⟩ ?_
                refine hx_take (i := 17) (oi := _) (v := .int .i64 (V.length : Int)) rfl rfl hns (by kernel_rfl) (by kernel_rfl) hQ (by kernel_rfl) (fun _ _ => by kernel_rfl) ⟨hS, hS6, hl, hbi, hf, hs, hCA⟩ ?_
                refine hx_take (i := 18) (oi := _) (v := .pointer (some ⟨g, 0, none⟩)) rfl rfl hns (by kernel_rfl) (by kernel_rfl) hQ (by kernel_rfl) (fun _ _ => by kernel_rfl) ⟨hS, hS6, hl, hbi, hf, hs, hCA⟩ ?_
                refine hx_take (i := 19) (oi := _) (v := .pointer (some ⟨g, 0, none⟩)) rfl rfl hns (by kernel_rfl) (by kernel_rfl) hQ (by kernel_rfl) (fun _ _ => by kernel_rfl) ⟨hS, hS6, hl, hbi, hf, hs, hCA⟩ ?_
                refine hx_take (i := 20) (oi := _) (v := .pointer (some ⟨g, 0, none⟩)) rfl rfl hns (by kernel_rfl) (by kernel_rfl) hQ (by kernel_rfl) (fun _ _ => by kernel_rfl) ⟨hS, hS6, hl, hbi, hf, hs, hCA⟩ ?_
                refine hx_take (i := 21) (oi := _) (v := .pointer (some ⟨g, 0, none⟩)) rfl rfl hns (by kernel_rfl) (by kernel_rfl) hQ (by kernel_rfl) (fun _ _ => by kernel_rfl) ⟨hS, hS6, hl, hbi, hf, hs, hCA⟩ ?_
                refine hx_take (i := 22) (oi := _) (v := .slice (some ⟨bc, oc, none⟩) L.length lc) rfl rfl hns (by kernel_rfl) (by kernel_rfl) hQ (by kernel_rfl) (fun W hW => ld_one rfl (by kernel_rfl) (by kernel_rfl) W (hW.2.2.1 0 _ rfl)) ⟨hS, hS6, hl, hbi, hf, hs, hCA⟩ ?_
                refine hx_take (i := 23) (oi := _) (v := .pointer (some ⟨fb, 11, none⟩)) rfl rfl hns (by kernel_rfl) (by kernel_rfl) hQ (by kernel_rfl) (fun _ _ => by kernel_rfl) ⟨hS, hS6, hl, hbi, hf, hs, hCA⟩ ?_
                refine hx_take (i := 24) (oi := _) (v := .int .i64 (k : Int)) rfl rfl hns (by kernel_rfl) (by kernel_rfl) hQ (by kernel_rfl) (fun W hW => ld_one rfl (by kernel_rfl) (by kernel_rfl) W (hW.2.2.2.2.2.1 11 _ rfl)) ⟨hS, hS6, hl, hbi, hf, hs, hCA⟩ ?_
                refine hx_take (i := 25) (oi := _) (v := .pointer (some ⟨bc, oc + k * 12, none⟩)) rfl rfl hns (by kernel_rfl) (by kernel_rfl) hQ (by kernel_rfl) (fun W _ => ix_sl (n := L.length) (c := lc) (K := 12) rfl (by kernel_rfl) (by kernel_rfl) (by kernel_rfl) rfl hk W) ⟨hS, hS6, hl, hbi, hf, hs, hCA⟩ ?_
                refine hx_take (i := 26) (oi := _) (v := .pointer (some ⟨bc, oc + k * 12 + 11, none⟩)) rfl rfl hns (by kernel_rfl) (by kernel_rfl) hQ (by kernel_rfl) (fun _ _ => by kernel_rfl) ⟨hS, hS6, hl, hbi, hf, hs, hCA⟩ ?_
                refine hx_take (i := 27) (oi := _) (v := .slice ba B.length bcap) rfl rfl hns (by kernel_rfl) (by kernel_rfl) hQ (by kernel_rfl) (fun W hW => ld_one rfl (by kernel_rfl) (by kernel_rfl) W (hW.2.2.2.2.2.2 11 _ rfl)) ⟨hS, hS6, hl, hbi, hf, hs, hCA⟩ ?_
                refine hx_take (i := 28) (oi := _) (v := .int .i64 (B.length : Int)) rfl rfl hns (by kernel_rfl) (by kernel_rfl) hQ (by kernel_rfl) (fun _ _ => by kernel_rfl) ⟨hS, hS6, hl, hbi, hf, hs, hCA⟩ ?_
                refine hx_take (i := 29) (oi := _) (v := .bool true) rfl rfl hns (by kernel_rfl) (by kernel_rfl) hQ (by kernel_rfl) (fun W _ => bin_val (neq_int rfl (by kernel_rfl) (by kernel_rfl) W) hd5) ⟨hS, hS6, hl, hbi, hf, hs, hCA⟩ ?_
                refine hx_take (i := 30) (oi := _) (v := .bool true) rfl rfl hns (by kernel_rfl) (by kernel_rfl) hQ (by kernel_rfl) (fun _ _ => by kernel_rfl) ⟨hS, hS6, hl, hbi, hf, hs, hCA⟩ ?_
                refine hx_take (i := 31) (oi := _) (v := .bool true) rfl rfl hns (by kernel_rfl) (by kernel_rfl) hQ (by kernel_rfl) (fun _ _ => by kernel_rfl) ⟨hS, hS6, hl, hbi, hf, hs, hCA⟩ ?_
                refine wpAnyH_done (by kernel_rfl) ?_ _
                clear hns hQ
                simp only [List.set_cons_zero, List.set_cons_succ]
                go_wp2_with fail
                go_ret
                exact ⟨rfl, HFIN.out _ hS6⟩
            · have hd4 : decide ((L.length : Int) ≤ (k : Int)) = true := decide_eq_true (by omega)
              have hRf : R = false := by rw [hB]; unfold fromB; rw [List.getElem?_eq_none (by omega)]
              clear hB
              subst hRf
              replace hS := hS.trans ((Since.refl w6).drew)
              replace hS6 := hS6.trans ((Since.refl w6).drew)
              replace hl := hl.next ((Since.refl w6).drew)
              replace hbi := hbi.next ((Since.refl w6).drew)
              replace hf := hf.next ((Since.refl w6).drew)
              replace hs := hs.next ((Since.refl w6).drew)
              refine hx_begin (S := fun W => (Since w0 W) ∧ (Since w6 W) ∧ (At W g 0 #[.slice va L.length lc, .map (some mf), .slice (some ⟨bs, os, none⟩) T.length tc, .map (some mm)]) ∧ (At W w.heap.size 0 #[.int .i64 (i : Int)]) ∧ (ASet W mf nF F) ∧ (At W fb 0 #[.string ⟨a_s.toArray⟩, .string ⟨a_p.toArray⟩, .int .i64 a_n, .bool a_v0, .string ⟨a_l0.toArray⟩, .bool a_v1, .string ⟨a_l1.toArray⟩, .bool a_v2, .string ⟨a_l2.toArray⟩, .bool a_v3, .string ⟨a_l3.toArray⟩, .int .i64 (k : Int), .slice sa V.length sc])) (by kernel_rfl) ⟨hS, hS6, hl, hbi, hf, hs⟩ (by kernel_rfl) (fun _ _ _ _ _ h => h) (fun hns hQ => ?_)
              refine hx_take (i := 0) (oi := _) (v := .pointer (some ⟨fb, 11, none⟩)) rfl rfl hns (by kernel_rfl) (by kernel_rfl) hQ (by kernel_rfl) (fun _ _ => by kernel_rfl) ⟨hS, hS6, hl, hbi, hf, hs⟩ ?_
              refine hx_take (i := 1) (oi := _) (v := .int .i64 (k : Int)) rfl rfl hns (by kernel_rfl) (by kernel_rfl) hQ (by kernel_rfl) (fun W hW => ld_one rfl (by kernel_rfl) (by kernel_rfl) W (hW.2.2.2.2.2 11 _ rfl)) ⟨hS, hS6, hl, hbi, hf, hs⟩ ?_
              refine hx_take (i := 2) (oi := _) (v := .bool false) rfl rfl hns (by kernel_rfl) (by kernel_rfl) hQ (by kernel_rfl) (fun W _ => bin_val (lss_int rfl (by kernel_rfl) (by kernel_rfl) W) hd3) ⟨hS, hS6, hl, hbi, hf, hs⟩ ?_
              refine hx_take (i := 3) (oi := _) (v := .bool false) rfl rfl hns (by kernel_rfl) (by kernel_rfl) hQ (by kernel_rfl) (fun _ _ => by kernel_rfl) ⟨hS, hS6, hl, hbi, hf, hs⟩ ?_
              refine hx_take (i := 4) (oi := _) (v := .pointer (some ⟨fb, 11, none⟩)) rfl rfl hns (by kernel_rfl) (by kernel_rfl) hQ (by kernel_rfl) (fun _ _ => by kernel_rfl) ⟨hS, hS6, hl, hbi, hf, hs⟩ ?_
              refine hx_take (i := 5) (oi := _) (v := .int .i64 (k : Int)) rfl rfl hns (by kernel_rfl) (by kernel_rfl) hQ (by kernel_rfl) (fun W hW => ld_one rfl (by kernel_rfl) (by kernel_rfl) W (hW.2.2.2.2.2 11 _ rfl)) ⟨hS, hS6, hl, hbi, hf, hs⟩ ?_
              refine hx_take (i := 6) (oi := _) (v := .pointer (some ⟨g, 0, none⟩)) rfl rfl hns (by kernel_rfl) (by kernel_rfl) hQ (by kernel_rfl) (fun _ _ => by kernel_rfl) ⟨hS, hS6, hl, hbi, hf, hs⟩ ?_
              refine hx_take (i := 7) (oi := _) (v := .pointer (some ⟨g, 0, none⟩)) rfl rfl hns (by kernel_rfl) (by kernel_rfl) hQ (by kernel_rfl) (fun _ _ => by kernel_rfl) ⟨hS, hS6, hl, hbi, hf, hs⟩ ?_
              refine hx_take (i := 8) (oi := _) (v := .pointer (some ⟨g, 0, none⟩)) rfl rfl hns (by kernel_rfl) (by kernel_rfl) hQ (by kernel_rfl) (fun _ _ => by kernel_rfl) ⟨hS, hS6, hl, hbi, hf, hs⟩ ?_
              refine hx_take (i := 9) (oi := _) (v := .pointer (some ⟨g, 0, none⟩)) rfl rfl hns (by kernel_rfl) (by kernel_rfl) hQ (by kernel_rfl) (fun _ _ => by kernel_rfl) ⟨hS, hS6, hl, hbi, hf, hs⟩ ?_
              refine hx_take (i := 10) (oi := _) (v := .slice va L.length lc) rfl rfl hns (by kernel_rfl) (by kernel_rfl) hQ (by kernel_rfl) (fun W hW => ld_one rfl (by kernel_rfl) (by kernel_rfl) W (hW.2.2.1 0 _ rfl)) ⟨hS, hS6, hl, hbi, hf, hs⟩ ?_
              refine hx_take (i := 11) (oi := _) (v := .int .i64 (L.length : Int)) rfl rfl hns (by kernel_rfl) (by kernel_rfl) hQ (by kernel_rfl) (fun _ _ => by kernel_rfl) ⟨hS, hS6, hl, hbi, hf, hs⟩ ?_
              refine hx_take (i := 12) (oi := _) (v := .bool true) rfl rfl hns (by kernel_rfl) (by kernel_rfl) hQ (by kernel_rfl) (fun W _ => bin_val (geq_int rfl (by kernel_rfl) (by kernel_rfl) W) hd4) ⟨hS, hS6, hl, hbi, hf, hs⟩ ?_
              refine hx_take (i := 13) (oi := _) (v := .bool true) rfl rfl hns (by kernel_rfl) (by kernel_rfl) hQ (by kernel_rfl) (fun _ _ => by kernel_rfl) ⟨hS, hS6, hl, hbi, hf, hs⟩ ?_
              refine hx_take (i := 14) (oi := _) (v := .bool true) rfl rfl hns (by kernel_rfl) (by kernel_rfl) hQ (by kernel_rfl) (fun _ _ => by kernel_rfl) ⟨hS, hS6, hl, hbi, hf, hs⟩ ?_
              refine hx_off (i := 15) (oi := _) rfl rfl hns (by kernel_rfl) (by kernel_rfl) hQ (by kernel_rfl) ⟨hS, hS6, hl, hbi, hf, hs⟩ ?_
              refine hx_off (i := 16) (oi := _) rfl rfl hns (by kernel_rfl) (by kernel_rfl) hQ (by kernel_rfl) ⟨hS, hS6, hl, hbi, hf, hs⟩ ?_
              refine hx_off (i := 17) (oi := _) rfl rfl hns (by kernel_rfl) (by kernel_rfl) hQ (by kernel_rfl) ⟨hS, hS6, hl, hbi, hf, hs⟩ ?_
              refine hx_off (i := 18) (oi := _) rfl rfl hns (by kernel_rfl) (by kernel_rfl) hQ (by kernel_rfl) ⟨hS, hS6, hl, hbi, hf, hs⟩ ?_
              refine hx_off (i := 19) (oi := _) rfl rfl hns (by kernel_rfl) (by kernel_rfl) hQ (by kernel_rfl) ⟨hS, hS6, hl, hbi, hf, hs⟩ ?_
              refine hx_off (i := 20) (oi := _) rfl rfl hns (by kernel_rfl) (by kernel_rfl) hQ (by kernel_rfl) ⟨hS, hS6, hl, hbi, hf, hs⟩ ?_
              refine hx_off (i := 21) (oi := _) rfl rfl hns (by kernel_rfl) (by kernel_rfl) hQ (by kernel_rfl) ⟨hS, hS6, hl, hbi, hf, hs⟩ ?_
              refine hx_off (i := 22) (oi := _) rfl rfl hns (by kernel_rfl) (by kernel_rfl) hQ (by kernel_rfl) ⟨hS, hS6, hl, hbi, hf, hs⟩ ?_
              refine hx_off (i := 23) (oi := _) rfl rfl hns (by kernel_rfl) (by kernel_rfl) hQ (by kernel_rfl) ⟨hS, hS6, hl, hbi, hf, hs⟩ ?_
              refine hx_off (i := 24) (oi := _) rfl rfl hns (by kernel_rfl) (by kernel_rfl) hQ (by kernel_rfl) ⟨hS, hS6, hl, hbi, hf, hs⟩ ?_
              refine hx_off (i := 25) (oi := _) rfl rfl hns (by kernel_rfl) (by kernel_rfl) hQ (by kernel_rfl) ⟨hS, hS6, hl, hbi, hf, hs⟩ ?_
              refine hx_off (i := 26) (oi := _) rfl rfl hns (by kernel_rfl) (by kernel_rfl) hQ (by kernel_rfl) ⟨hS, hS6, hl, hbi, hf, hs⟩ ?_
              refine hx_off (i := 27) (oi := _) rfl rfl hns (by kernel_rfl) (by kernel_rfl) hQ (by kernel_rfl) ⟨hS, hS6, hl, hbi, hf, hs⟩ ?_
              refine hx_off (i := 28) (oi := _) rfl rfl hns (by kernel_rfl) (by kernel_rfl) hQ (by kernel_rfl) ⟨hS, hS6, hl, hbi, hf, hs⟩ ?_
              refine hx_off (i := 29) (oi := _) rfl rfl hns (by kernel_rfl) (by kernel_rfl) hQ (by kernel_rfl) ⟨hS, hS6, hl, hbi, hf, hs⟩ ?_
              refine hx_take (i := 30) (oi := _) (v := .bool true) rfl rfl hns (by kernel_rfl) (by kernel_rfl) hQ (by kernel_rfl) (fun _ _ => by kernel_rfl) ⟨hS, hS6, hl, hbi, hf, hs⟩ ?_
              refine hx_take (i := 31) (oi := _) (v := .bool true) rfl rfl hns (by kernel_rfl) (by kernel_rfl) hQ (by kernel_rfl) (fun _ _ => by kernel_rfl) ⟨hS, hS6, hl, hbi, hf, hs⟩ ?_
              refine wpAnyH_done (by kernel_rfl) ?_ _
              clear hns hQ
              simp only [List.set_cons_zero, List.set_cons_succ]
              go_wp2_with fail
              go_ret
              exact ⟨rfl, HFIN.out _ hS6⟩
end Go.Proofs.YtdlnmkdbjgbimaaGreatDoor
